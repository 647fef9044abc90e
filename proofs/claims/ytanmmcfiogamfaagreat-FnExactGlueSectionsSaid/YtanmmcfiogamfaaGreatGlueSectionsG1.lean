/- The functions, as the machine runs them. -/
import Derived.Test.YtanmmcfiogamfaaGreatVm3
import Derived.Test.YtanmmcfiogamfaaGreatProg
import Derived.KernelRfl
import Derived.WalkKit
import Derived.Lib.Walk
import Derived.Lib.AppendZeros
import Derived.Sort.WalkA
import Derived.Sort.WalkB2
import Derived.Sort.WalkB12
import Derived.Deep.LoopGhost
import Derived.Shelf.RegionOpenPlain
import Derived.Lib.SliceRun
namespace Go.Proofs.YtanmmcfiogamfaaGreat
open Go Go.Vm
set_option linter.unusedVariables false
set_option linter.unusedSimpArgs false
open Go.Proofs.Tryz
abbrev LI := List Int
abbrev LL := List LI
abbrev MX := Int × Int × Int × LI
abbrev LM := List MX
abbrev SF := LL × Int × LI × LM
abbrev OI := Option ((Int × Unit) × Unit)
abbrev OB := Option ((Bool × Unit) × Unit)
abbrev OL := Option ((LI × Unit) × Unit)
abbrev OQ := Option ((LL × Unit) × Unit)
abbrev OM := Option ((MX × Unit) × Unit)
abbrev OS := Option ((SF × Unit) × Unit)
abbrev tI : Ty := .int .i64
abbrev tL : Ty := .sl tI
abbrev tQ : Ty := .sl tL
abbrev cI (x : Int) : Cell := ⟨tI, .sh, x⟩
abbrev cL (x : LI) : Cell := ⟨tL, .sh, x⟩
abbrev dL (x : LI) : Cell := ⟨tL, .deep, x⟩
abbrev cQ (x : LL) : Cell := ⟨tQ, .sh, x⟩
abbrev dQ (x : LL) : Cell := ⟨tQ, .deep, x⟩
abbrev vI (x : Int) : TV := .val false [cI x]
abbrev vL (x : LI) : TV := .val false [cL x]
abbrev vQ (x : LL) : TV := .val false [cQ x]
abbrev TMatrix_2 : Ty := .pair tI tL
abbrev TMatrix_1 : Ty := .pair tI TMatrix_2
abbrev TMatrix : Ty := .pair tI TMatrix_1
abbrev TEdge_1 : Ty := .pair tI tI
abbrev TEdge : Ty := .pair tI TEdge_1
abbrev TSheaf_2 : Ty := .pair tL (.sl TMatrix)
abbrev TSheaf_1 : Ty := .pair tI TSheaf_2
abbrev TSheaf : Ty := .pair tQ TSheaf_1
def tabl : List (Nat × TInfo) := [
  (2, ⟨false, tI, 0, []⟩),
  (3, ⟨false, tI, 0, []⟩),
  (4, ⟨false, .bool, 0, []⟩),
  (22, ⟨false, tQ, 25, []⟩),
  (24, ⟨true, tQ, 0, [(0, 1, false)]⟩),
  (25, ⟨false, tL, 2, []⟩),
  (26, ⟨false, (.sl TMatrix), 90, []⟩),
  (28, ⟨true, TSheaf, 0, [(0, 1, true), (1, 1, false), (2, 1, false), (3, 1, false)]⟩),
  (31, ⟨true, tQ, 0, [(0, 1, false)]⟩),
  (32, ⟨false, (.sl TMatrix), 86, []⟩),
  (34, ⟨true, TSheaf, 0, [(0, 1, true), (1, 1, false), (2, 1, false), (3, 1, false)]⟩),
  (86, ⟨true, TMatrix, 0, [(0, 1, false), (1, 1, false), (2, 1, false), (3, 1, false)]⟩),
  (90, ⟨true, TMatrix, 0, [(0, 1, false), (1, 1, false), (2, 1, false), (3, 1, false)]⟩),
  (146, ⟨true, TEdge, 0, [(0, 1, false), (1, 1, false), (2, 1, false)]⟩),
  (153, ⟨false, (.int .u64), 0, []⟩),
  (163, ⟨false, (.sl TEdge), 146, []⟩),
  (175, ⟨false, tL, 3, []⟩),
  (202, ⟨false, (.sl tQ), 22, []⟩)]
theorem tab_good : tabB Go.Proofs.Tryz.prog tabl = true := by kernel_rfl
theorem tab_open : b2P Go.Proofs.Tryz.prog tabl = true := by kernel_rfl
theorem mixed_ok : Go.Proofs.Tryz.prog.follows .mixedOrders = true := by kernel_rfl
set_option maxHeartbeats 2000000 in
set_option maxRecDepth 100000 in
theorem slices_Grow_Lint64_int64.grow0 (w : World) : Calls Go.Proofs.Tryz.prog 195 #[.slice none 0 0, .int .i64 ((0 : Nat) : Int)] w fun e w' => e = .returned (.slice none 0 0) ∧ w' = w := by
  have h2 : Go.RowKit.wrap64 (((0 : Nat) : Int) - ((0 : Nat) : Int)) = 0 := by unfold Go.RowKit.wrap64; omega
  go_enter Go.Proofs.Tryz.func195, Go.Proofs.Tryz.ntmps195
  go_wp2
  go_ret
  exact ⟨rfl, rfl⟩
set_option maxHeartbeats 4000000 in
set_option maxRecDepth 100000 in
theorem slices_Grow_Lint64_int64.grow1 (w : World) (n : Nat) (h0 : 0 < n) (hn : n ≤ 1099511627776) (i : TypeInfo) (z : Value) (hi : Go.Proofs.Tryz.prog.info? 2 = some i) (hz : i.zero = some z) (hs : 0 < i.size) (hb : i.bytes ≤ 256) :
    Calls Go.Proofs.Tryz.prog 195 #[.slice none 0 0, .int .i64 (n : Int)] w fun e w' => ∃ G, n ≤ G ∧ G ≤ 9223372036854775807 ∧ e = .returned (.slice (some ⟨w.heap.size, 0, none⟩) 0 G) ∧ w' = w.drew.alloc (.cells (Builtin.zeroCells z.cells n ++ Builtin.zeroCells z.cells (G - n)) 2) := by
  have h1 : ¬ ((n : Int) < 0) := by omega
  have h2 : Go.RowKit.wrap64 (((0 : Nat) : Int) - ((0 : Nat) : Int)) = 0 := by unfold Go.RowKit.wrap64; omega
  have h3 : Go.RowKit.wrap64 ((n : Int) - 0) = (n : Int) := by unfold Go.RowKit.wrap64; omega
  have h4 : (n : Int) > 0 := by omega
  have hm : n * i.bytes ≤ 1099511627776 * 256 := Nat.mul_le_mul hn hb
  have hrz : ∀ ty, (Builtin.append_ #[25, 3] ty #[.slice none 0 0, .int .i64 (n : Int)]).run Go.Proofs.Tryz.prog w =
      .ok (.slice (some ⟨w.heap.size, 0, none⟩) n (grownCap w n 0 2)) (w.drew.alloc (.cells (Builtin.zeroCells z.cells n ++ Builtin.zeroCells z.cells (grownCap w n 0 2 - n)) 2)) := fun ty =>
    Lib.run_append_nil_zeros (P := Go.Proofs.Tryz.prog) w 25 3 ty 2 i z .i64 .i64 (by kernel_rfl) (by kernel_rfl) hi hz n h0 hs (by omega) (by omega)
  have hGn : n ≤ grownCap w n 0 2 := grownCap_ge w _ _ _
  obtain ⟨G, hG⟩ : ∃ G, G = grownCap w n 0 2 := ⟨_, rfl⟩
  have hG63 : G ≤ 9223372036854775807 := by
    have := grownCap_le_maxLen w n 0 2 (by unfold maxLen; omega)
    rw [← hG] at this
    unfold maxLen at this
    omega
  rw [← hG] at hrz hGn
  clear hG
  refine Calls.mono (R := fun e w' => e = .returned (.slice (some ⟨w.heap.size, 0, none⟩) 0 G) ∧ w' = w.drew.alloc (.cells (Builtin.zeroCells z.cells n ++ Builtin.zeroCells z.cells (G - n)) 2)) ?_ fun e w' h => ⟨G, hGn, hG63, h.1, h.2⟩
  clear hi hz hs hb hm
  go_enter Go.Proofs.Tryz.func195, Go.Proofs.Tryz.ntmps195
  go_wp2_with (at_builtin; refine Lib.wpList_append_run _ rfl _ _ _ _ rfl _ _ rfl rfl _ _ (hrz _) ?_)
  all_goals (go_ret; exact ⟨rfl, rfl⟩)
theorem slices_Grow_Lint64_int64.growOK : b0p Go.Proofs.Tryz.prog (195, tI) := by
  have hT : a2H tabl 2 = some ⟨false, tI, 0, []⟩ := by kernel_rfl
  obtain ⟨inf, h1, h2, h3, h4, h5⟩ := (tab_ok tab_good).info 2 _ hT
  exact growOK_of ⟨Go.Proofs.Tryz.f195, Go.Proofs.Tryz.func195, by kernel_rfl, by kernel_rfl⟩ (a5i (tab_ok tab_good) hT) slices_Grow_Lint64_int64.grow0 fun w n a b => slices_Grow_Lint64_int64.grow1 w n a b inf _ h1 h5 (by rw [h2]; exact a3P _) h4
set_option maxHeartbeats 2000000 in
set_option maxRecDepth 100000 in
theorem slices_Grow_LLint64_Lint64.grow0 (w : World) : Calls Go.Proofs.Tryz.prog 224 #[.slice none 0 0, .int .i64 ((0 : Nat) : Int)] w fun e w' => e = .returned (.slice none 0 0) ∧ w' = w := by
  have h2 : Go.RowKit.wrap64 (((0 : Nat) : Int) - ((0 : Nat) : Int)) = 0 := by unfold Go.RowKit.wrap64; omega
  go_enter Go.Proofs.Tryz.func224, Go.Proofs.Tryz.ntmps224
  go_wp2
  go_ret
  exact ⟨rfl, rfl⟩
set_option maxHeartbeats 4000000 in
set_option maxRecDepth 100000 in
theorem slices_Grow_LLint64_Lint64.grow1 (w : World) (n : Nat) (h0 : 0 < n) (hn : n ≤ 1099511627776) (i : TypeInfo) (z : Value) (hi : Go.Proofs.Tryz.prog.info? 25 = some i) (hz : i.zero = some z) (hs : 0 < i.size) (hb : i.bytes ≤ 256) :
    Calls Go.Proofs.Tryz.prog 224 #[.slice none 0 0, .int .i64 (n : Int)] w fun e w' => ∃ G, n ≤ G ∧ G ≤ 9223372036854775807 ∧ e = .returned (.slice (some ⟨w.heap.size, 0, none⟩) 0 G) ∧ w' = w.drew.alloc (.cells (Builtin.zeroCells z.cells n ++ Builtin.zeroCells z.cells (G - n)) 25) := by
  have h1 : ¬ ((n : Int) < 0) := by omega
  have h2 : Go.RowKit.wrap64 (((0 : Nat) : Int) - ((0 : Nat) : Int)) = 0 := by unfold Go.RowKit.wrap64; omega
  have h3 : Go.RowKit.wrap64 ((n : Int) - 0) = (n : Int) := by unfold Go.RowKit.wrap64; omega
  have h4 : (n : Int) > 0 := by omega
  have hm : n * i.bytes ≤ 1099511627776 * 256 := Nat.mul_le_mul hn hb
  have hrz : ∀ ty, (Builtin.append_ #[22, 3] ty #[.slice none 0 0, .int .i64 (n : Int)]).run Go.Proofs.Tryz.prog w =
      .ok (.slice (some ⟨w.heap.size, 0, none⟩) n (grownCap w n 0 25)) (w.drew.alloc (.cells (Builtin.zeroCells z.cells n ++ Builtin.zeroCells z.cells (grownCap w n 0 25 - n)) 25)) := fun ty =>
    Lib.run_append_nil_zeros (P := Go.Proofs.Tryz.prog) w 22 3 ty 25 i z .i64 .i64 (by kernel_rfl) (by kernel_rfl) hi hz n h0 hs (by omega) (by omega)
  have hGn : n ≤ grownCap w n 0 25 := grownCap_ge w _ _ _
  obtain ⟨G, hG⟩ : ∃ G, G = grownCap w n 0 25 := ⟨_, rfl⟩
  have hG63 : G ≤ 9223372036854775807 := by
    have := grownCap_le_maxLen w n 0 25 (by unfold maxLen; omega)
    rw [← hG] at this
    unfold maxLen at this
    omega
  rw [← hG] at hrz hGn
  clear hG
  refine Calls.mono (R := fun e w' => e = .returned (.slice (some ⟨w.heap.size, 0, none⟩) 0 G) ∧ w' = w.drew.alloc (.cells (Builtin.zeroCells z.cells n ++ Builtin.zeroCells z.cells (G - n)) 25)) ?_ fun e w' h => ⟨G, hGn, hG63, h.1, h.2⟩
  clear hi hz hs hb hm
  go_enter Go.Proofs.Tryz.func224, Go.Proofs.Tryz.ntmps224
  go_wp2_with (at_builtin; refine Lib.wpList_append_run _ rfl _ _ _ _ rfl _ _ rfl rfl _ _ (hrz _) ?_)
  all_goals (go_ret; exact ⟨rfl, rfl⟩)
theorem slices_Grow_LLint64_Lint64.growOK : b0p Go.Proofs.Tryz.prog (224, tL) := by
  have hT : a2H tabl 25 = some ⟨false, tL, 2, []⟩ := by kernel_rfl
  obtain ⟨inf, h1, h2, h3, h4, h5⟩ := (tab_ok tab_good).info 25 _ hT
  exact growOK_of ⟨Go.Proofs.Tryz.f224, Go.Proofs.Tryz.func224, by kernel_rfl, by kernel_rfl⟩ (a5i (tab_ok tab_good) hT) slices_Grow_LLint64_Lint64.grow0 fun w n a b => slices_Grow_LLint64_Lint64.grow1 w n a b inf _ h1 h5 (by rw [h2]; exact a3P _) h4
abbrev pS : PS := .val true TSheaf
abbrev pC : PS := .val true tQ
abbrev pQ : PS := .val false tQ
abbrev pL : PS := .val false tL
abbrev pI : PS := .val false tI
abbrev pM : PS := .val true TMatrix
abbrev qS : PS := .rptr TSheaf
abbrev qC : PS := .rptr tQ
abbrev qM : PS := .rptr TMatrix
abbrev oI : OutK × Ty × Vm.Mode := (.val false, tI, .deep)
abbrev oB : OutK × Ty × Vm.Mode := (.val false, .bool, .deep)
abbrev oL : OutK × Ty × Vm.Mode := (.val false, tL, .deep)
abbrev oQ : OutK × Ty × Vm.Mode := (.val false, tQ, .deep)
abbrev oC : OutK × Ty × Vm.Mode := (.val true, tQ, .deep)
abbrev oS : OutK × Ty × Vm.Mode := (.val true, TSheaf, .deep)
abbrev oM : OutK × Ty × Vm.Mode := (.val true, TMatrix, .deep)
abbrev bd (f : Func) : Code := f.body.getD .skip
abbrev cx (l : List Vm.Callee) : Ctx := ⟨a2H tabl, l, [], [], [], []⟩
abbrev cf (c : Ctx) : Cfg := ⟨c, [], [], fun _ => ([], []), fun _ => []⟩
abbrev cl (c : Ctx) (f : Nat → List Nat × List Nat) : Cfg := ⟨c, [], [], f, fun _ => []⟩
theorem nM {α : Type} {p : α → Prop} : ∀ x ∈ ([] : List α), p x := List.forall_mem_nil _
theorem cM {α : Type} {p : α → Prop} {a : α} {l : List α} (h : p a ∧ ∀ x ∈ l, p x) : ∀ x ∈ a :: l, p x := List.forall_mem_cons.2 h
theorem cok {l : List Vm.Callee} (h : ∀ e ∈ l, a2Z prog e) : CtxOK prog (cx l) := ⟨nM, mixed_ok, tab_ok tab_good, h, nM, nM⟩
abbrev dD : TV := .dead

namespace Ae7
noncomputable def sig : Sig := ⟨[pL, pI], [oI]⟩
noncomputable def cfg : Cfg := cf (cx [])
noncomputable def fin := finK cfg.c sig [.tmp 4]
noncomputable def F (d : LI × Int × Unit) : OI := anyK (a8N cfg fin (bd f28) (a5B sig.ps d 12))
variable (a_1 : LI) (left_2 : Int)
noncomputable def T : OI := if (decide ((IntKind.i64.wrap (left_2 - (a_1.length : Int))) < 0)) = true then some (((-1 : Int), ()), ()) else some ((IntKind.i64.wrap (left_2 - (a_1.length : Int)), ()), ())
theorem eq : F (a_1, left_2, ()) = T a_1 left_2 := eq_any fun k => by kernel_rfl
theorem S : a2Z prog ⟨28, sig, F⟩ := sound_k (res := [.tmp 4]) func28 (cok nM)
end Ae7
namespace Ai4
noncomputable def sig : Sig := ⟨[pQ, pI], [oI]⟩
noncomputable def cfg : Cfg := cl (cx [⟨28, Ae7.sig, Ae7.F⟩]) fun id => match id with | 5 => ([0, 1, 5], []) | _ => ([], [])
noncomputable def fin := finK cfg.c sig [.tmp 4]
noncomputable def F (d : LL × Int × Unit) : OI := anyK (a8N cfg fin (bd f30) (a5B sig.ps d 27))
variable (k : Nat) (x3 : LL) (i4 i5 : Int)
noncomputable def l5 : OI := Vm.runT cfg fin k [.inLoop (sub [1, 1, 1, 0, 1, 0, 0] (bd f30)), .inBlock 0, .code (sub [1, 1, 1, 1] (bd f30))] ⟨[vQ x3, vI i4, dD, dD, dD, vI i5] ++ a7W 21, []⟩
theorem l5_eq : l5 (k + 1) x3 i4 i5 = if (decide (i5 < (x3.length : Int))) = true then if 0 ≤ i5 ∧ i5 < (x3.length : Int) then (Ae7.F (x3.getD i5.toNat ([] : LI), i4, ())).bind fun r6 => if (decide (r6.1.1 < 0)) = true then some (((-1 : Int), ()), ()) else l5 k x3 r6.1.1 (IntKind.i64.wrap (i5 + 1)) else none else some ((i4, ()), ()) := by kernel_rfl
variable (a_1 : LL) (left_2 : Int)
noncomputable def T : OI := if (decide ((IntKind.i64.wrap (left_2 - (a_1.length : Int))) < 0)) = true then some (((-1 : Int), ()), ()) else l5 k a_1 (IntKind.i64.wrap (left_2 - (a_1.length : Int))) (0 : Int)
theorem of {r} (h : Ev (fun k => T k a_1 left_2) r) : F (a_1, left_2, ()) = some r := Ev.run (fun k => by kernel_rfl) h
theorem S : a2Z prog ⟨30, sig, F⟩ := sound_k (res := [.tmp 4]) func30 (cok (cM ⟨Ae7.S, nM⟩))
end Ai4
namespace Ag6
noncomputable def sig : Sig := ⟨[pC, pI], [oI]⟩
noncomputable def cfg : Cfg := cf (cx [⟨30, Ai4.sig, Ai4.F⟩])
noncomputable def fin := finK cfg.c sig [.tmp 4]
noncomputable def F (d : LL × Int × Unit) : OI := anyK (a8N cfg fin (bd f8) (a5B sig.ps d 12))
variable (a_1 : LL) (left_2 : Int)
noncomputable def T : OI := (Ai4.F (a_1, left_2, ())).bind fun r3 => if (decide (r3.1.1 < 0)) = true then some (((-1 : Int), ()), ()) else some ((r3.1.1, ()), ())
theorem eq : F (a_1, left_2, ()) = T a_1 left_2 := eq_any fun k => by kernel_rfl
theorem S : a2Z prog ⟨8, sig, F⟩ := sound_k (res := [.tmp 4]) func8 (cok (cM ⟨Ai4.S, nM⟩))
end Ag6
namespace Ap9
noncomputable def sig : Sig := ⟨[pM, pI], [oI]⟩
noncomputable def cfg : Cfg := cf (cx [⟨28, Ae7.sig, Ae7.F⟩])
noncomputable def fin := finK cfg.c sig [.tmp 4]
noncomputable def F (d : MX × Int × Unit) : OI := anyK (a8N cfg fin (bd f66) (a5B sig.ps d 12))
noncomputable def T (a_1 a_2 a_3 : Int) (a_4 : LI) (left_5 : Int) : OI := (Ae7.F (a_4, left_5, ())).bind fun r6 => if (decide (r6.1.1 < 0)) = true then some (((-1 : Int), ()), ()) else some ((r6.1.1, ()), ())
theorem eq (a_1 a_2 a_3 : Int) (a_4 : LI) (left_5 : Int) : F ((a_1, (a_2, (a_3, a_4))), left_5, ()) = T a_1 a_2 a_3 a_4 left_5 := eq_any fun k => by kernel_rfl
theorem S : a2Z prog ⟨66, sig, F⟩ := sound_k (res := [.tmp 4]) func66 (cok (cM ⟨Ae7.S, nM⟩))
end Ap9
namespace Ai5
noncomputable def sig : Sig := ⟨[.val false (.sl TMatrix), pI], [oI]⟩
noncomputable def cfg : Cfg := cl (cx [⟨66, Ap9.sig, Ap9.F⟩]) fun id => match id with | 5 => ([0, 1, 5], []) | _ => ([], [])
noncomputable def fin := finK cfg.c sig [.tmp 4]
noncomputable def F (d : LM × Int × Unit) : OI := anyK (a8N cfg fin (bd f29) (a5B sig.ps d 27))
variable (k : Nat) (x3 : LM) (i4 i5 : Int)
noncomputable def l5 : OI := Vm.runT cfg fin k [.inLoop (sub [1, 1, 1, 0, 1, 0, 0] (bd f29)), .inBlock 0, .code (sub [1, 1, 1, 1] (bd f29))] ⟨[.val false [⟨(.sl TMatrix), .sh, x3⟩], vI i4, dD, dD, dD, vI i5] ++ a7W 21, []⟩
theorem l5_eq : l5 (k + 1) x3 i4 i5 = if (decide (i5 < (x3.length : Int))) = true then if 0 ≤ i5 ∧ i5 < (x3.length : Int) then (Ap9.F (x3.getD i5.toNat (0, 0, 0, ([] : LI)), i4, ())).bind fun r6 => if (decide (r6.1.1 < 0)) = true then some (((-1 : Int), ()), ()) else l5 k x3 r6.1.1 (IntKind.i64.wrap (i5 + 1)) else none else some ((i4, ()), ()) := by kernel_rfl
variable (a_1 : LM) (left_2 : Int)
noncomputable def T : OI := if (decide ((IntKind.i64.wrap (left_2 - (a_1.length : Int))) < 0)) = true then some (((-1 : Int), ()), ()) else l5 k a_1 (IntKind.i64.wrap (left_2 - (a_1.length : Int))) (0 : Int)
theorem of {r} (h : Ev (fun k => T k a_1 left_2) r) : F (a_1, left_2, ()) = some r := Ev.run (fun k => by kernel_rfl) h
theorem S : a2Z prog ⟨29, sig, F⟩ := sound_k (res := [.tmp 4]) func29 (cok (cM ⟨Ap9.S, nM⟩))
end Ai5
namespace An4
noncomputable def sig : Sig := ⟨[pS, pI], [oI]⟩
noncomputable def cfg : Cfg := cf (cx [⟨8, Ag6.sig, Ag6.F⟩, ⟨28, Ae7.sig, Ae7.F⟩, ⟨29, Ai5.sig, Ai5.F⟩])
noncomputable def fin := finK cfg.c sig [.tmp 4]
noncomputable def F (d : SF × Int × Unit) : OI := anyK (a8N cfg fin (bd f7) (a5B sig.ps d 24))
noncomputable def T (a_1 : LL) (a_2 : Int) (a_3 : LI) (a_4 : LM) (left_5 : Int) : OI := (Ag6.F (a_1, left_5, ())).bind fun r6 => if (decide (r6.1.1 < 0)) = true then some (((-1 : Int), ()), ()) else (Ae7.F (a_3, r6.1.1, ())).bind fun r7 => if (decide (r7.1.1 < 0)) = true then some (((-1 : Int), ()), ()) else (Ai5.F (a_4, r7.1.1, ())).bind fun r8 => if (decide (r8.1.1 < 0)) = true then some (((-1 : Int), ()), ()) else some ((r8.1.1, ()), ())
theorem eq (a_1 : LL) (a_2 : Int) (a_3 : LI) (a_4 : LM) (left_5 : Int) : F ((a_1, (a_2, (a_3, a_4))), left_5, ()) = T a_1 a_2 a_3 a_4 left_5 := eq_any fun k => by kernel_rfl
theorem S : a2Z prog ⟨7, sig, F⟩ := sound_k (res := [.tmp 4]) func7 (cok (cM ⟨Ag6.S, cM ⟨Ae7.S, cM ⟨Ai5.S, nM⟩⟩⟩))
end An4
namespace Aa7
noncomputable def sig : Sig := ⟨[pL], [oL]⟩
noncomputable def cfg : Cfg := cl (cx []) fun id => match id with | 3 => ([0, 3, 4], [12]) | _ => ([], [])
noncomputable def fin := finK cfg.c sig [.tmp 2]
noncomputable def F (d : LI × Unit) : OL := anyK (a8N cfg fin (bd f19) (a5B sig.ps d 22))
variable (k : Nat) (x2 : LI) (i3 : Int) (x4 : LI)
noncomputable def l3 : OL := Vm.runT cfg fin k [.inLoop (sub [1, 1, 0, 1, 0, 0] (bd f19)), .inBlock 0, .code (sub [1, 1, 1] (bd f19))] ⟨[vL x2, dD, dD, .view 12 (.root 0) 1 false, vI i3] ++ a7W 17, [(12, ⟨false, [dL x4]⟩)]⟩
theorem l3_eq : l3 (k + 1) x2 i3 x4 = if (decide (i3 < (x2.length : Int))) = true then if 0 ≤ i3 ∧ i3 < (x2.length : Int) then if 0 ≤ i3 ∧ i3 < (x4.length : Int) then l3 k x2 (IntKind.i64.wrap (i3 + 1)) (x4.set i3.toNat (x2.getD i3.toNat 0 : Int)) else none else none else some ((x4, ()), ()) := by kernel_rfl
variable (a_1 : LI)
noncomputable def T : OL := if 0 ≤ (a_1.length : Int) ∧ (a_1.length : Int) ≤ (bigN : Int) then l3 k a_1 (0 : Int) (List.replicate (a_1.length : Int).toNat 0) else none
theorem of {r} (h : Ev (fun k => T k a_1) r) : F (a_1, ()) = some r := Ev.run (fun k => by kernel_rfl) h
theorem S : a2Z prog ⟨19, sig, F⟩ := sound_k (res := [.tmp 2]) func19 (cok nM)
end Aa7
namespace Ak4
noncomputable def sig : Sig := ⟨[pQ], [oQ]⟩
noncomputable def cfg : Cfg := cl (cx [⟨19, Aa7.sig, Aa7.F⟩]) fun id => match id with | 3 => ([0, 3, 4], [12]) | _ => ([], [])
noncomputable def fin := finK cfg.c sig [.tmp 2]
noncomputable def F (d : LL × Unit) : OQ := anyK (a8N cfg fin (bd f37) (a5B sig.ps d 23))
variable (k : Nat) (x2 : LL) (i3 : Int) (x4 : LL)
noncomputable def l3 : OQ := Vm.runT cfg fin k [.inLoop (sub [1, 1, 0, 1, 0, 0] (bd f37)), .inBlock 0, .code (sub [1, 1, 1] (bd f37))] ⟨[vQ x2, dD, dD, .view 12 (.root 0) 1 false, vI i3] ++ a7W 18, [(12, ⟨false, [dQ x4]⟩)]⟩
theorem l3_eq : l3 (k + 1) x2 i3 x4 = if (decide (i3 < (x2.length : Int))) = true then if 0 ≤ i3 ∧ i3 < (x2.length : Int) then (Aa7.F (x2.getD i3.toNat ([] : LI), ())).bind fun r5 => if 0 ≤ i3 ∧ i3 < (x4.length : Int) then l3 k x2 (IntKind.i64.wrap (i3 + 1)) (x4.set i3.toNat r5.1.1) else none else none else some ((x4, ()), ()) := by kernel_rfl
variable (a_1 : LL)
noncomputable def T : OQ := if 0 ≤ (a_1.length : Int) ∧ (a_1.length : Int) ≤ (bigN : Int) then l3 k a_1 (0 : Int) (List.replicate (a_1.length : Int).toNat ([] : LI)) else none
theorem of {r} (h : Ev (fun k => T k a_1) r) : F (a_1, ()) = some r := Ev.run (fun k => by kernel_rfl) h
theorem S : a2Z prog ⟨37, sig, F⟩ := sound_k (res := [.tmp 2]) func37 (cok (cM ⟨Aa7.S, nM⟩))
end Ak4
namespace Ad7
noncomputable def sig : Sig := ⟨[pC], [oC]⟩
noncomputable def cfg : Cfg := cf (cx [⟨37, Ak4.sig, Ak4.F⟩])
noncomputable def fin := finK cfg.c sig [.cell 2 31]
noncomputable def F (d : LL × Unit) : OQ := anyK (a8N cfg fin (bd f11) (a5B sig.ps d 9))
variable (a_1 : LL)
noncomputable def T : OQ := (Ak4.F (a_1, ())).bind fun r2 => some ((r2.1.1, ()), ())
theorem eq : F (a_1, ()) = T a_1 := eq_any fun k => by kernel_rfl
theorem S : a2Z prog ⟨11, sig, F⟩ := sound_k (res := [.cell 2 31]) func11 (cok (cM ⟨Ak4.S, nM⟩))
end Ad7
namespace Aq0
noncomputable def sig : Sig := ⟨[pM], [oM]⟩
noncomputable def cfg : Cfg := cf (cx [⟨19, Aa7.sig, Aa7.F⟩])
noncomputable def fin := finK cfg.c sig [.cell 2 86]
noncomputable def F (d : MX × Unit) : OM := anyK (a8N cfg fin (bd f78) (a5B sig.ps d 18))
variable (a_1 a_2 a_3 : Int) (a_4 : LI)
noncomputable def T : OM := (Aa7.F (a_4, ())).bind fun r5 => some (((a_1, (a_2, (a_3, r5.1.1))), ()), ())
theorem eq : F ((a_1, (a_2, (a_3, a_4))), ()) = T a_1 a_2 a_3 a_4 := eq_any fun k => by kernel_rfl
theorem S : a2Z prog ⟨78, sig, F⟩ := sound_k (res := [.cell 2 86]) func78 (cok (cM ⟨Aa7.S, nM⟩))
end Aq0
namespace Ak5
noncomputable def sig : Sig := ⟨[.val false (.sl TMatrix)], [(.val false, (.sl TMatrix), .deep)]⟩
noncomputable def cfg : Cfg := cl (cx [⟨78, Aq0.sig, Aq0.F⟩]) fun id => match id with | 3 => ([0, 3, 4], [12]) | _ => ([], [])
noncomputable def fin := finK cfg.c sig [.tmp 2]
noncomputable def F (d : LM × Unit) : Option ((LM × Unit) × (Unit)) := anyK (a8N cfg fin (bd f36) (a5B sig.ps d 23))
variable (k : Nat) (x2 : LM) (i3 : Int) (x4 : LM)
noncomputable def l3 : Option ((LM × Unit) × (Unit)) := Vm.runT cfg fin k [.inLoop (sub [1, 1, 0, 1, 0, 0] (bd f36)), .inBlock 0, .code (sub [1, 1, 1] (bd f36))] ⟨[.val false [⟨(.sl TMatrix), .sh, x2⟩], dD, dD, .view 12 (.root 0) 1 false, vI i3] ++ a7W 18, [(12, ⟨false, [⟨(.sl TMatrix), .deep, x4⟩]⟩)]⟩
theorem l3_eq : l3 (k + 1) x2 i3 x4 = if (decide (i3 < (x2.length : Int))) = true then if 0 ≤ i3 ∧ i3 < (x2.length : Int) then (Aq0.F (x2.getD i3.toNat (0, 0, 0, ([] : LI)), ())).bind fun r5 => if 0 ≤ i3 ∧ i3 < (x4.length : Int) then l3 k x2 (IntKind.i64.wrap (i3 + 1)) (x4.set i3.toNat r5.1.1) else none else none else some ((x4, ()), ()) := by kernel_rfl
variable (a_1 : LM)
noncomputable def T : Option ((LM × Unit) × (Unit)) := if 0 ≤ (a_1.length : Int) ∧ (a_1.length : Int) ≤ (bigN : Int) then l3 k a_1 (0 : Int) (List.replicate (a_1.length : Int).toNat (0, 0, 0, ([] : LI))) else none
theorem of {r} (h : Ev (fun k => T k a_1) r) : F (a_1, ()) = some r := Ev.run (fun k => by kernel_rfl) h
theorem S : a2Z prog ⟨36, sig, F⟩ := sound_k (res := [.tmp 2]) func36 (cok (cM ⟨Aq0.S, nM⟩))
end Ak5
namespace Aj5
noncomputable def sig : Sig := ⟨[pS], [oS]⟩
noncomputable def cfg : Cfg := cf (cx [⟨11, Ad7.sig, Ad7.F⟩, ⟨19, Aa7.sig, Aa7.F⟩, ⟨36, Ak5.sig, Ak5.F⟩])
noncomputable def fin := finK cfg.c sig [.cell 2 34]
noncomputable def F (d : SF × Unit) : OS := anyK (a8N cfg fin (bd f10) (a5B sig.ps d 20))
variable (a_1 : LL) (a_2 : Int) (a_3 : LI) (a_4 : LM)
noncomputable def T : OS := (Ad7.F (a_1, ())).bind fun r5 => (Aa7.F (a_3, ())).bind fun r6 => (Ak5.F (a_4, ())).bind fun r7 => some (((r5.1.1, (a_2, (r6.1.1, r7.1.1))), ()), ())
theorem eq : F ((a_1, (a_2, (a_3, a_4))), ()) = T a_1 a_2 a_3 a_4 := eq_any fun k => by kernel_rfl
theorem S : a2Z prog ⟨10, sig, F⟩ := sound_k (res := [.cell 2 34]) func10 (cok (cM ⟨Ad7.S, cM ⟨Aa7.S, cM ⟨Ak5.S, nM⟩⟩⟩))
end Aj5
namespace Aa3
noncomputable def sig : Sig := ⟨[pL, pL], [oB]⟩
noncomputable def cfg : Cfg := cl (cx []) fun id => match id with | 4 => ([0, 1, 5], []) | _ => ([], [])
noncomputable def fin := finK cfg.c sig [.tmp 4]
noncomputable def F (d : LI × LI × Unit) : OB := anyK (a8N cfg fin (bd f21) (a5B sig.ps d 26))
variable (k : Nat) (x3 x4 : LI) (i5 : Int)
noncomputable def l4 : OB := Vm.runT cfg fin k [.inLoop (sub [1, 1, 0, 1, 0, 0] (bd f21)), .inBlock 0, .code (sub [1, 1, 1] (bd f21))] ⟨[vL x3, vL x4, dD, dD, dD, vI i5] ++ a7W 20, []⟩
theorem l4_eq : l4 (k + 1) x3 x4 i5 = if (decide (i5 < (x3.length : Int))) = true then if 0 ≤ i5 ∧ i5 < (x3.length : Int) then if 0 ≤ i5 ∧ i5 < (x4.length : Int) then if ((x3.getD i5.toNat 0 : Int) != (x4.getD i5.toNat 0 : Int)) = true then some ((false, ()), ()) else l4 k x3 x4 (IntKind.i64.wrap (i5 + 1)) else none else none else some ((true, ()), ()) := by kernel_rfl
variable (a_1 b_2 : LI)
noncomputable def T : OB := if ((a_1.length : Int) != (b_2.length : Int)) = true then some ((false, ()), ()) else l4 k a_1 b_2 (0 : Int)
theorem of {r} (h : Ev (fun k => T k a_1 b_2) r) : F (a_1, b_2, ()) = some r := Ev.run (fun k => by kernel_rfl) h
theorem S : a2Z prog ⟨21, sig, F⟩ := sound_k (res := [.tmp 4]) func21 (cok nM)
end Aa3
namespace Ai2
noncomputable def sig : Sig := ⟨[pQ, pQ], [oB]⟩
noncomputable def cfg : Cfg := cl (cx [⟨21, Aa3.sig, Aa3.F⟩]) fun id => match id with | 4 => ([0, 1, 5], []) | _ => ([], [])
noncomputable def fin := finK cfg.c sig [.tmp 4]
noncomputable def F (d : LL × LL × Unit) : OB := anyK (a8N cfg fin (bd f41) (a5B sig.ps d 27))
variable (k : Nat) (x3 x4 : LL) (i5 : Int)
noncomputable def l4 : OB := Vm.runT cfg fin k [.inLoop (sub [1, 1, 0, 1, 0, 0] (bd f41)), .inBlock 0, .code (sub [1, 1, 1] (bd f41))] ⟨[vQ x3, vQ x4, dD, dD, dD, vI i5] ++ a7W 21, []⟩
theorem l4_eq : l4 (k + 1) x3 x4 i5 = if (decide (i5 < (x3.length : Int))) = true then if 0 ≤ i5 ∧ i5 < (x3.length : Int) then if 0 ≤ i5 ∧ i5 < (x4.length : Int) then (Aa3.F (x3.getD i5.toNat ([] : LI), x4.getD i5.toNat ([] : LI), ())).bind fun r6 => if (!r6.1.1) = true then some ((false, ()), ()) else l4 k x3 x4 (IntKind.i64.wrap (i5 + 1)) else none else none else some ((true, ()), ()) := by kernel_rfl
variable (a_1 b_2 : LL)
noncomputable def T : OB := if ((a_1.length : Int) != (b_2.length : Int)) = true then some ((false, ()), ()) else l4 k a_1 b_2 (0 : Int)
theorem of {r} (h : Ev (fun k => T k a_1 b_2) r) : F (a_1, b_2, ()) = some r := Ev.run (fun k => by kernel_rfl) h
theorem S : a2Z prog ⟨41, sig, F⟩ := sound_k (res := [.tmp 4]) func41 (cok (cM ⟨Aa3.S, nM⟩))
end Ai2
namespace Ag4
noncomputable def sig : Sig := ⟨[pC, pC], [oB]⟩
noncomputable def cfg : Cfg := cf (cx [⟨41, Ai2.sig, Ai2.F⟩])
noncomputable def fin := finK cfg.c sig [.tmp 4]
noncomputable def F (d : LL × LL × Unit) : OB := anyK (a8N cfg fin (bd f14) (a5B sig.ps d 11))
variable (a_1 b_2 : LL)
noncomputable def T : OB := (Ai2.F (a_1, b_2, ())).bind fun r3 => if (!r3.1.1) = true then some ((false, ()), ()) else some ((true, ()), ())
theorem eq : F (a_1, b_2, ()) = T a_1 b_2 := eq_any fun k => by kernel_rfl
theorem S : a2Z prog ⟨14, sig, F⟩ := sound_k (res := [.tmp 4]) func14 (cok (cM ⟨Ai2.S, nM⟩))
end Ag4
namespace Ap6
noncomputable def sig : Sig := ⟨[pM, pM], [oB]⟩
noncomputable def cfg : Cfg := cf (cx [⟨21, Aa3.sig, Aa3.F⟩])
noncomputable def fin := finK cfg.c sig [.tmp 4]
noncomputable def F (d : MX × MX × Unit) : OB := anyK (a8N cfg fin (bd f83) (a5B sig.ps d 26))
variable (a_1 a_2 a_3 : Int) (a_4 : LI) (b_5 b_6 b_7 : Int) (b_8 : LI)
noncomputable def T : OB := if (a_1 != b_5) = true then some ((false, ()), ()) else if (a_2 != b_6) = true then some ((false, ()), ()) else if (a_3 != b_7) = true then some ((false, ()), ()) else (Aa3.F (a_4, b_8, ())).bind fun r9 => if (!r9.1.1) = true then some ((false, ()), ()) else some ((true, ()), ())
theorem eq : F ((a_1, (a_2, (a_3, a_4))), (b_5, (b_6, (b_7, b_8))), ()) = T a_1 a_2 a_3 a_4 b_5 b_6 b_7 b_8 := eq_any fun k => by kernel_rfl
theorem S : a2Z prog ⟨83, sig, F⟩ := sound_k (res := [.tmp 4]) func83 (cok (cM ⟨Aa3.S, nM⟩))
end Ap6
namespace Ai3
noncomputable def sig : Sig := ⟨[.val false (.sl TMatrix), .val false (.sl TMatrix)], [oB]⟩
noncomputable def cfg : Cfg := cl (cx [⟨83, Ap6.sig, Ap6.F⟩]) fun id => match id with | 4 => ([0, 1, 5], []) | _ => ([], [])
noncomputable def fin := finK cfg.c sig [.tmp 4]
noncomputable def F (d : LM × LM × Unit) : OB := anyK (a8N cfg fin (bd f40) (a5B sig.ps d 27))
variable (k : Nat) (x3 x4 : LM) (i5 : Int)
noncomputable def l4 : OB := Vm.runT cfg fin k [.inLoop (sub [1, 1, 0, 1, 0, 0] (bd f40)), .inBlock 0, .code (sub [1, 1, 1] (bd f40))] ⟨[.val false [⟨(.sl TMatrix), .sh, x3⟩], .val false [⟨(.sl TMatrix), .sh, x4⟩], dD, dD, dD, vI i5] ++ a7W 21, []⟩
theorem l4_eq : l4 (k + 1) x3 x4 i5 = if (decide (i5 < (x3.length : Int))) = true then if 0 ≤ i5 ∧ i5 < (x3.length : Int) then if 0 ≤ i5 ∧ i5 < (x4.length : Int) then (Ap6.F (x3.getD i5.toNat (0, 0, 0, ([] : LI)), x4.getD i5.toNat (0, 0, 0, ([] : LI)), ())).bind fun r6 => if (!r6.1.1) = true then some ((false, ()), ()) else l4 k x3 x4 (IntKind.i64.wrap (i5 + 1)) else none else none else some ((true, ()), ()) := by kernel_rfl
variable (a_1 b_2 : LM)
noncomputable def T : OB := if ((a_1.length : Int) != (b_2.length : Int)) = true then some ((false, ()), ()) else l4 k a_1 b_2 (0 : Int)
theorem of {r} (h : Ev (fun k => T k a_1 b_2) r) : F (a_1, b_2, ()) = some r := Ev.run (fun k => by kernel_rfl) h
theorem S : a2Z prog ⟨40, sig, F⟩ := sound_k (res := [.tmp 4]) func40 (cok (cM ⟨Ap6.S, nM⟩))
end Ai3
namespace Ap7
noncomputable def sig : Sig := ⟨[pS, pS], [oB]⟩
noncomputable def cfg : Cfg := cf (cx [⟨14, Ag4.sig, Ag4.F⟩, ⟨21, Aa3.sig, Aa3.F⟩, ⟨40, Ai3.sig, Ai3.F⟩])
noncomputable def fin := finK cfg.c sig [.tmp 4]
noncomputable def F (d : SF × SF × Unit) : OB := anyK (a8N cfg fin (bd f13) (a5B sig.ps d 28))
variable (a_1 : LL) (a_2 : Int) (a_3 : LI) (a_4 : LM) (b_5 : LL) (b_6 : Int) (b_7 : LI) (b_8 : LM)
noncomputable def T : OB := (Ag4.F (a_1, b_5, ())).bind fun r9 => if (!r9.1.1) = true then some ((false, ()), ()) else if (a_2 != b_6) = true then some ((false, ()), ()) else (Aa3.F (a_3, b_7, ())).bind fun r10 => if (!r10.1.1) = true then some ((false, ()), ()) else (Ai3.F (a_4, b_8, ())).bind fun r11 => if (!r11.1.1) = true then some ((false, ()), ()) else some ((true, ()), ())
theorem eq : F ((a_1, (a_2, (a_3, a_4))), (b_5, (b_6, (b_7, b_8))), ()) = T a_1 a_2 a_3 a_4 b_5 b_6 b_7 b_8 := eq_any fun k => by kernel_rfl
theorem S : a2Z prog ⟨13, sig, F⟩ := sound_k (res := [.tmp 4]) func13 (cok (cM ⟨Ag4.S, cM ⟨Aa3.S, cM ⟨Ai3.S, nM⟩⟩⟩))
end Ap7
namespace Aa8
noncomputable def sig : Sig := ⟨[.wr false tL .deep, pI], [oI]⟩
noncomputable def cfg : Cfg := ⟨cx [], [0], [], fun id => match id with | 2 => ([0, 1, 5], [0]) | _ => ([], []), fun _ => []⟩
noncomputable def fin := finK cfg.c sig [.tmp 4]
noncomputable def F (d : LI × Int × Unit) : Option ((Int × Unit) × (LI × Unit)) := anyK (a8N cfg fin (bd f22) (a5B sig.ps d 19))
variable (k : Nat) (i3 i4 : Int) (x5 : LI)
noncomputable def l2 : Option ((Int × Unit) × (LI × Unit)) := Vm.runT cfg fin k [.inLoop (sub [1, 0, 1, 0, 0] (bd f22)), .inBlock 0, .code (sub [1, 1] (bd f22))] ⟨[.view 0 (.root 0) 1 false, vI i3, dD, dD, dD, vI i4] ++ a7W 13, [(0, ⟨false, [dL x5]⟩)]⟩
theorem l2_eq : l2 (k + 1) i3 i4 x5 = if (decide (i4 < (x5.length : Int))) = true then if 0 ≤ i4 ∧ i4 < (x5.length : Int) then l2 k (IntKind.i64.wrap (i3 + 1)) (IntKind.i64.wrap (i4 + 1)) (x5.set i4.toNat i3) else none else some ((i3, ()), (x5, ())) := by kernel_rfl
variable (a_1 : LI) (k_2 : Int)
noncomputable def T : Option ((Int × Unit) × (LI × Unit)) := l2 k k_2 (0 : Int) a_1
theorem of {r} (h : Ev (fun k => T k a_1 k_2) r) : F (a_1, k_2, ()) = some r := Ev.run (fun k => by kernel_rfl) h
theorem S : a2Z prog ⟨22, sig, F⟩ := sound_k (res := [.tmp 4]) func22 (cok nM)
end Aa8
namespace Am2
noncomputable def sig : Sig := ⟨[.wr false tQ .deep, pI], [oI]⟩
noncomputable def cfg : Cfg := ⟨cx [⟨22, Aa8.sig, Aa8.F⟩], [0], [], fun id => match id with | 2 => ([0, 1, 5], [0]) | _ => ([], []), fun _ => []⟩
noncomputable def fin := finK cfg.c sig [.tmp 4]
noncomputable def F (d : LL × Int × Unit) : Option ((Int × Unit) × (LL × Unit)) := anyK (a8N cfg fin (bd f43) (a5B sig.ps d 19))
variable (k : Nat) (i3 i4 : Int) (x5 : LL)
noncomputable def l2 : Option ((Int × Unit) × (LL × Unit)) := Vm.runT cfg fin k [.inLoop (sub [1, 0, 1, 0, 0] (bd f43)), .inBlock 0, .code (sub [1, 1] (bd f43))] ⟨[.view 0 (.root 0) 1 false, vI i3, dD, dD, dD, vI i4] ++ a7W 13, [(0, ⟨false, [dQ x5]⟩)]⟩
theorem l2_eq : l2 (k + 1) i3 i4 x5 = if (decide (i4 < (x5.length : Int))) = true then if 0 ≤ i4 ∧ i4 < (x5.length : Int) then (Aa8.F (x5.getD i4.toNat ([] : LI), i3, ())).bind fun r6 => l2 k r6.1.1 (IntKind.i64.wrap (i4 + 1)) (x5.set i4.toNat r6.2.1) else none else some ((i3, ()), (x5, ())) := by kernel_rfl
variable (a_1 : LL) (k_2 : Int)
noncomputable def T : Option ((Int × Unit) × (LL × Unit)) := l2 k k_2 (0 : Int) a_1
theorem of {r} (h : Ev (fun k => T k a_1 k_2) r) : F (a_1, k_2, ()) = some r := Ev.run (fun k => by kernel_rfl) h
theorem S : a2Z prog ⟨43, sig, F⟩ := sound_k (res := [.tmp 4]) func43 (cok (cM ⟨Aa8.S, nM⟩))
end Am2
namespace Ag5
noncomputable def sig : Sig := ⟨[.wr true tQ .deep, pI], [oI]⟩
noncomputable def cfg : Cfg := ⟨cx [⟨43, Am2.sig, Am2.F⟩], [0], [], fun _ => ([], []), fun _ => []⟩
noncomputable def fin := finK cfg.c sig [.tmp 4]
noncomputable def F (d : LL × Int × Unit) : Option ((Int × Unit) × (LL × Unit)) := anyK (a8N cfg fin (bd f16) (a5B sig.ps d 10))
variable (a_1 : LL) (k_2 : Int)
noncomputable def T : Option ((Int × Unit) × (LL × Unit)) := (Am2.F (a_1, k_2, ())).bind fun r3 => some ((r3.1.1, ()), (r3.2.1, ()))
theorem eq : F (a_1, k_2, ()) = T a_1 k_2 := eq_any fun k => by kernel_rfl
theorem S : a2Z prog ⟨16, sig, F⟩ := sound_k (res := [.tmp 4]) func16 (cok (cM ⟨Am2.S, nM⟩))
end Ag5
namespace Am3
noncomputable def sig : Sig := ⟨[.wr false (.sl TMatrix) .deep, pI], [oI]⟩
noncomputable def cfg : Cfg := ⟨cx [⟨22, Aa8.sig, Aa8.F⟩], [0], [], fun id => match id with | 2 => ([0, 1, 5], [0]) | _ => ([], []), fun _ => []⟩
noncomputable def fin := finK cfg.c sig [.tmp 4]
noncomputable def F (d : LM × Int × Unit) : Option ((Int × Unit) × (LM × Unit)) := anyK (a8N cfg fin (bd f42) (a5B sig.ps d 41))
variable (k : Nat) (i3 i4 : Int) (x5 : LM)
noncomputable def l2 : Option ((Int × Unit) × (LM × Unit)) := Vm.runT cfg fin k [.inLoop (sub [1, 0, 1, 0, 0] (bd f42)), .inBlock 0, .code (sub [1, 1] (bd f42))] ⟨[.view 0 (.root 0) 1 false, vI i3, dD, dD, dD, vI i4] ++ a7W 35, [(0, ⟨false, [⟨(.sl TMatrix), .deep, x5⟩]⟩)]⟩
theorem l2_eq : l2 (k + 1) i3 i4 x5 = if (decide (i4 < (x5.length : Int))) = true then if 0 ≤ i4 ∧ i4 < (x5.length : Int) then if 0 ≤ i4 ∧ i4 < ((x5.set i4.toNat (i3, (x5.getD i4.toNat (0, 0, 0, ([] : LI))).2)).length : Int) then let y6 : LM := (x5.set i4.toNat (i3, (x5.getD i4.toNat (0, 0, 0, ([] : LI))).2)).set i4.toNat (((x5.set i4.toNat (i3, (x5.getD i4.toNat (0, 0, 0, ([] : LI))).2)).getD i4.toNat (0, 0, 0, ([] : LI))).1, (IntKind.i64.wrap (i3 + 1), (((x5.set i4.toNat (i3, (x5.getD i4.toNat (0, 0, 0, ([] : LI))).2)).getD i4.toNat (0, 0, 0, ([] : LI))).2).2)); if 0 ≤ i4 ∧ i4 < (y6.length : Int) then let y7 : LM := y6.set i4.toNat ((y6.getD i4.toNat (0, 0, 0, ([] : LI))).1, (((y6.getD i4.toNat (0, 0, 0, ([] : LI))).2).1, (IntKind.i64.wrap ((IntKind.i64.wrap (i3 + 1)) + 1), (((y6.getD i4.toNat (0, 0, 0, ([] : LI))).2).2).2))); if 0 ≤ i4 ∧ i4 < (y7.length : Int) then (Aa8.F ((((y7.getD i4.toNat (0, 0, 0, ([] : LI))).2).2).2, IntKind.i64.wrap ((IntKind.i64.wrap ((IntKind.i64.wrap (i3 + 1)) + 1)) + 1), ())).bind fun r8 => l2 k r8.1.1 (IntKind.i64.wrap (i4 + 1)) (y7.set i4.toNat ((y7.getD i4.toNat (0, 0, 0, ([] : LI))).1, (((y7.getD i4.toNat (0, 0, 0, ([] : LI))).2).1, ((((y7.getD i4.toNat (0, 0, 0, ([] : LI))).2).2).1, r8.2.1)))) else none else none else none else none else some ((i3, ()), (x5, ())) := by kernel_rfl
variable (a_1 : LM) (k_2 : Int)
noncomputable def T : Option ((Int × Unit) × (LM × Unit)) := l2 k k_2 (0 : Int) a_1
theorem of {r} (h : Ev (fun k => T k a_1 k_2) r) : F (a_1, k_2, ()) = some r := Ev.run (fun k => by kernel_rfl) h
theorem S : a2Z prog ⟨42, sig, F⟩ := sound_k (res := [.tmp 4]) func42 (cok (cM ⟨Aa8.S, nM⟩))
end Am3
namespace Ap8
noncomputable def sig : Sig := ⟨[.wr true TSheaf .deep, pI], [oI]⟩
noncomputable def cfg : Cfg := ⟨cx [⟨16, Ag5.sig, Ag5.F⟩, ⟨22, Aa8.sig, Aa8.F⟩, ⟨42, Am3.sig, Am3.F⟩], [0], [], fun _ => ([], []), fun _ => []⟩
noncomputable def fin := finK cfg.c sig [.tmp 4]
noncomputable def F (d : SF × Int × Unit) : Option ((Int × Unit) × (SF × Unit)) := anyK (a8N cfg fin (bd f15) (a5B sig.ps d 18))
variable (a_1 : LL) (a_2 : Int) (a_3 : LI) (a_4 : LM) (k_5 : Int)
noncomputable def T : Option ((Int × Unit) × (SF × Unit)) := (Ag5.F (a_1, k_5, ())).bind fun r6 => (Aa8.F (a_3, r6.1.1, ())).bind fun r7 => (Am3.F (a_4, r7.1.1, ())).bind fun r8 => some ((r8.1.1, ()), ((r6.2.1, (a_2, (r7.2.1, r8.2.1))), ()))
theorem eq : F ((a_1, (a_2, (a_3, a_4))), k_5, ()) = T a_1 a_2 a_3 a_4 k_5 := eq_any fun k => by kernel_rfl
theorem S : a2Z prog ⟨15, sig, F⟩ := sound_k (res := [.tmp 4]) func15 (cok (cM ⟨Ag5.S, cM ⟨Aa8.S, cM ⟨Am3.S, nM⟩⟩⟩))
end Ap8
namespace Aj4
noncomputable def sig : Sig := ⟨[pL, pI], [oI]⟩
noncomputable def cfg : Cfg := cl (cx []) fun id => match id with | 2 => ([0, 1, 5], []) | _ => ([], [])
noncomputable def fin := finK cfg.c sig [.tmp 4]
noncomputable def F (d : LI × Int × Unit) : OI := anyK (a8N cfg fin (bd f23) (a5B sig.ps d 21))
variable (k : Nat) (x3 : LI) (i4 i5 : Int)
noncomputable def l2 : OI := Vm.runT cfg fin k [.inLoop (sub [1, 0, 1, 0, 0] (bd f23)), .inBlock 0, .code (sub [1, 1] (bd f23))] ⟨[vL x3, vI i4, dD, dD, dD, vI i5] ++ a7W 15, []⟩
theorem l2_eq : l2 (k + 1) x3 i4 i5 = if (decide (i5 < (x3.length : Int))) = true then if 0 ≤ i5 ∧ i5 < (x3.length : Int) then if ((x3.getD i5.toNat 0 : Int) != i4) = true then some (((-1 : Int), ()), ()) else l2 k x3 (IntKind.i64.wrap (i4 + 1)) (IntKind.i64.wrap (i5 + 1)) else none else some ((i4, ()), ()) := by kernel_rfl
variable (a_1 : LI) (k_2 : Int)
noncomputable def T : OI := l2 k a_1 k_2 (0 : Int)
theorem of {r} (h : Ev (fun k => T k a_1 k_2) r) : F (a_1, k_2, ()) = some r := Ev.run (fun k => by kernel_rfl) h
theorem S : a2Z prog ⟨23, sig, F⟩ := sound_k (res := [.tmp 4]) func23 (cok nM)
end Aj4
namespace Aa5
noncomputable def sig : Sig := ⟨[pI, pI, pI], [oB]⟩
noncomputable def cfg : Cfg := cf (cx [])
noncomputable def fin := finK cfg.c sig [.tmp 6]
noncomputable def F (d : Int × Int × Int × Unit) : OB := anyK (a8N cfg fin (bd f118) (a5B sig.ps d 15))
variable (n_1 low_2 high_3 : Int)
noncomputable def T : OB := if (decide (n_1 ≥ low_2)) = true then some ((decide (n_1 ≤ high_3), ()), ()) else some ((false, ()), ())
theorem eq : F (n_1, low_2, high_3, ()) = T n_1 low_2 high_3 := eq_any fun k => by kernel_rfl
theorem S : a2Z prog ⟨118, sig, F⟩ := sound_k (res := [.tmp 6]) func118 (cok nM)
end Aa5
namespace Am6
noncomputable def sig : Sig := ⟨[pL, pI, pI], [oB]⟩
noncomputable def cfg : Cfg := cl (cx [⟨118, Aa5.sig, Aa5.F⟩]) fun id => match id with | 2 => ([0, 1, 2, 7], []) | _ => ([], [])
noncomputable def fin := finK cfg.c sig [.tmp 6]
noncomputable def F (d : LI × Int × Int × Unit) : OB := anyK (a8N cfg fin (bd f119) (a5B sig.ps d 38))
variable (k : Nat) (x4 : LI) (i5 i6 i7 : Int)
noncomputable def l2 : OB := Vm.runT cfg fin k [.inLoop (sub [1, 0, 1, 0, 0] (bd f119)), .inBlock 0, .code (sub [1, 1] (bd f119))] ⟨[vL x4, vI i5, vI i6, dD, dD, dD, dD, vI i7] ++ a7W 30, []⟩
theorem l2_eq : l2 (k + 1) x4 i5 i6 i7 = if (decide (i7 < (x4.length : Int))) = true then if 0 ≤ i7 ∧ i7 < (x4.length : Int) then (Aa5.F ((x4.getD i7.toNat 0 : Int), i5, i6, ())).bind fun r8 => if (!r8.1.1) = true then some ((false, ()), ()) else if (decide (i7 > 0)) = true then if 0 ≤ (IntKind.i64.wrap (i7 - 1)) ∧ (IntKind.i64.wrap (i7 - 1)) < (x4.length : Int) then if 0 ≤ i7 ∧ i7 < (x4.length : Int) then if (decide ((x4.getD (IntKind.i64.wrap (i7 - 1)).toNat 0) ≥ (x4.getD i7.toNat 0 : Int))) = true then some ((false, ()), ()) else l2 k x4 i5 i6 (IntKind.i64.wrap (i7 + 1)) else none else none else l2 k x4 i5 i6 (IntKind.i64.wrap (i7 + 1)) else none else some ((true, ()), ()) := by kernel_rfl
variable (list_1 : LI) (low_2 high_3 : Int)
noncomputable def T : OB := l2 k list_1 low_2 high_3 (0 : Int)
theorem of {r} (h : Ev (fun k => T k list_1 low_2 high_3) r) : F (list_1, low_2, high_3, ()) = some r := Ev.run (fun k => by kernel_rfl) h
theorem S : a2Z prog ⟨119, sig, F⟩ := sound_k (res := [.tmp 6]) func119 (cok (cM ⟨Aa5.S, nM⟩))
end Am6
namespace Aq5
noncomputable def sig : Sig := ⟨[pL], [oB]⟩
noncomputable def cfg : Cfg := cf (cx [⟨118, Aa5.sig, Aa5.F⟩, ⟨119, Am6.sig, Am6.F⟩])
noncomputable def fin := finK cfg.c sig [.tmp 2]
noncomputable def F (d : LI × Unit) : OB := anyK (a8N cfg fin (bd f69) (a5B sig.ps d 10))
variable (s_1 : LI)
noncomputable def T : OB := (Aa5.F ((s_1.length : Int), (1 : Int), (4 : Int), ())).bind fun r2 => if r2.1.1 = true then (Am6.F (s_1, (0 : Int), (9 : Int), ())).bind fun r3 => some ((r3.1.1, ()), ()) else some ((false, ()), ())
theorem eq : F (s_1, ()) = T s_1 := eq_any fun k => by kernel_rfl
theorem S : a2Z prog ⟨69, sig, F⟩ := sound_k (res := [.tmp 2]) func69 (cok (cM ⟨Aa5.S, cM ⟨Am6.S, nM⟩⟩))
end Aq5
namespace Ai7
noncomputable def sig : Sig := ⟨[pL, pL], [oB]⟩
noncomputable def cfg : Cfg := cl (cx []) fun id => match id with | 4 => ([0, 1, 5], []) | _ => ([], [])
noncomputable def fin := finK cfg.c sig [.tmp 4]
noncomputable def F (d : LI × LI × Unit) : OB := anyK (a8N cfg fin (bd f70) (a5B sig.ps d 40))
variable (k : Nat) (x3 x4 : LI) (i5 : Int)
noncomputable def l4 : OB := Vm.runT cfg fin k [.inLoop (sub [1, 1, 0, 1, 0, 0] (bd f70)), .inBlock 0, .code (sub [1, 1, 1] (bd f70))] ⟨[vL x3, vL x4, dD, dD, dD, vI i5] ++ a7W 34, []⟩
theorem l4_eq : l4 (k + 1) x3 x4 i5 = if (decide (i5 < (x3.length : Int))) = true then if 0 ≤ i5 ∧ i5 < (x3.length : Int) then if 0 ≤ i5 ∧ i5 < (x4.length : Int) then if ((x3.getD i5.toNat 0 : Int) != (x4.getD i5.toNat 0 : Int)) = true then if 0 ≤ i5 ∧ i5 < (x3.length : Int) then if 0 ≤ i5 ∧ i5 < (x4.length : Int) then some ((decide ((x3.getD i5.toNat 0 : Int) < (x4.getD i5.toNat 0 : Int)), ()), ()) else none else none else l4 k x3 x4 (IntKind.i64.wrap (i5 + 1)) else none else none else some ((false, ()), ()) := by kernel_rfl
variable (a_1 b_2 : LI)
noncomputable def T : OB := if ((a_1.length : Int) != (b_2.length : Int)) = true then some ((decide ((a_1.length : Int) < (b_2.length : Int)), ()), ()) else l4 k a_1 b_2 (0 : Int)
theorem of {r} (h : Ev (fun k => T k a_1 b_2) r) : F (a_1, b_2, ()) = some r := Ev.run (fun k => by kernel_rfl) h
theorem S : a2Z prog ⟨70, sig, F⟩ := sound_k (res := [.tmp 4]) func70 (cok nM)
end Ai7
namespace Ah4
noncomputable def sig : Sig := ⟨[pL, pL], [oB]⟩
noncomputable def cfg : Cfg := cl (cx []) fun id => match id with | 4 => ([0, 1, 5], []) | _ => ([], [])
noncomputable def fin := finK cfg.c sig [.tmp 4]
noncomputable def F (d : LI × LI × Unit) : OB := anyK (a8N cfg fin (bd f120) (a5B sig.ps d 26))
variable (k : Nat) (x3 x4 : LI) (i5 : Int)
noncomputable def l4 : OB := Vm.runT cfg fin k [.inLoop (sub [1, 1, 0, 1, 0, 0] (bd f120)), .inBlock 0, .code (sub [1, 1, 1] (bd f120))] ⟨[vL x3, vL x4, dD, dD, dD, vI i5] ++ a7W 20, []⟩
theorem l4_eq : l4 (k + 1) x3 x4 i5 = if (decide (i5 < (x3.length : Int))) = true then if 0 ≤ i5 ∧ i5 < (x3.length : Int) then if 0 ≤ i5 ∧ i5 < (x4.length : Int) then if ((x3.getD i5.toNat 0 : Int) != (x4.getD i5.toNat 0 : Int)) = true then some ((false, ()), ()) else l4 k x3 x4 (IntKind.i64.wrap (i5 + 1)) else none else none else some ((true, ()), ()) := by kernel_rfl
variable (a_1 b_2 : LI)
noncomputable def T : OB := if ((a_1.length : Int) != (b_2.length : Int)) = true then some ((false, ()), ()) else l4 k a_1 b_2 (0 : Int)
theorem of {r} (h : Ev (fun k => T k a_1 b_2) r) : F (a_1, b_2, ()) = some r := Ev.run (fun k => by kernel_rfl) h
theorem S : a2Z prog ⟨120, sig, F⟩ := sound_k (res := [.tmp 4]) func120 (cok nM)
end Ah4
namespace Aa0
noncomputable def sig : Sig := ⟨[qC, pL], [oI]⟩
noncomputable def cfg : Cfg := cl (cx [⟨120, Ah4.sig, Ah4.F⟩]) fun id => match id with | 2 => ([0, 1, 5], []) | _ => ([], [])
noncomputable def fin := finK cfg.c sig [.tmp 4]
noncomputable def F (d : LL × LI × Unit) : OI := anyK (a8N cfg fin (bd f71) (a5B sig.ps d 25))
variable (k : Nat) (x3 : LL) (x4 : LI) (i5 : Int)
noncomputable def l2 : OI := Vm.runT cfg fin k [.inLoop (sub [1, 0, 1, 0, 0] (bd f71)), .inBlock 0, .code (sub [1, 1] (bd f71))] ⟨[.rptr false [cQ x3], vL x4, dD, dD, dD, vI i5] ++ a7W 19, []⟩
theorem l2_eq : l2 (k + 1) x3 x4 i5 = if (decide (i5 < (x3.length : Int))) = true then if 0 ≤ i5 ∧ i5 < (x3.length : Int) then (Ah4.F (x3.getD i5.toNat ([] : LI), x4, ())).bind fun r6 => if r6.1.1 = true then some ((i5, ()), ()) else l2 k x3 x4 (IntKind.i64.wrap (i5 + 1)) else none else some (((-1 : Int), ()), ()) := by kernel_rfl
variable (c_1 : LL) (s_2 : LI)
noncomputable def T : OI := l2 k c_1 s_2 (0 : Int)
theorem of {r} (h : Ev (fun k => T k c_1 s_2) r) : F (c_1, s_2, ()) = some r := Ev.run (fun k => by kernel_rfl) h
theorem S : a2Z prog ⟨71, sig, F⟩ := sound_k (res := [.tmp 4]) func71 (cok (cM ⟨Ah4.S, nM⟩))
end Aa0
namespace Ad1
noncomputable def sig : Sig := ⟨[pL], [oL]⟩
noncomputable def cfg : Cfg := cf (cx [])
noncomputable def fin := finK cfg.c sig [.tmp 2]
noncomputable def F (d : LI × Unit) : OL := anyK (a8N cfg fin (bd f121) (a5B sig.ps d 6))
variable (list_1 : LI)
noncomputable def T : OL := if ([] : LI).length + list_1.length ≤ bigA then some ((([] : LI) ++ list_1, ()), ()) else none
theorem eq : F (list_1, ()) = T list_1 := eq_any fun k => by kernel_rfl
theorem S : a2Z prog ⟨121, sig, F⟩ := sound_k (res := [.tmp 2]) func121 (cok nM)
end Ad1
namespace Ah5
noncomputable def sig : Sig := ⟨[pL, pI], [oL]⟩
noncomputable def cfg : Cfg := cf (cx [⟨121, Ad1.sig, Ad1.F⟩])
noncomputable def fin := finK cfg.c sig [.tmp 4]
noncomputable def F (d : LI × Int × Unit) : OL := anyK (a8N cfg fin (bd f72) (a5B sig.ps d 16))
variable (s_1 : LI) (k_2 : Int)
noncomputable def T : OL := if 0 ≤ (0 : Int) ∧ (0 : Int) ≤ k_2 ∧ k_2 ≤ (s_1.length : Int) then (Ad1.F (cutL s_1 (0 : Int) k_2, ())).bind fun r3 => if 0 ≤ (IntKind.i64.wrap (k_2 + (1 : Int))) ∧ (IntKind.i64.wrap (k_2 + (1 : Int))) ≤ (s_1.length : Int) ∧ (s_1.length : Int) ≤ (s_1.length : Int) then if r3.1.1.length + (cutL s_1 (IntKind.i64.wrap (k_2 + (1 : Int))) (s_1.length : Int)).length ≤ bigA then some ((r3.1.1 ++ (cutL s_1 (IntKind.i64.wrap (k_2 + (1 : Int))) (s_1.length : Int)), ()), ()) else none else none else none
theorem eq : F (s_1, k_2, ()) = T s_1 k_2 := eq_any fun k => by kernel_rfl
theorem S : a2Z prog ⟨72, sig, F⟩ := sound_k (res := [.tmp 4]) func72 (cok (cM ⟨Ad1.S, nM⟩))
end Ah5
namespace Aa4
noncomputable def sig : Sig := ⟨[qC], [oB]⟩
noncomputable def cfg : Cfg := cl (cx [⟨69, Aq5.sig, Aq5.F⟩, ⟨70, Ai7.sig, Ai7.F⟩, ⟨71, Aa0.sig, Aa0.F⟩, ⟨72, Ah5.sig, Ah5.F⟩]) fun id => match id with | 4 => ([0, 3], []) | 10 => ([0, 3, 4, 5], []) | _ => ([], [])
noncomputable def fin := finK cfg.c sig [.tmp 2]
noncomputable def F (d : LL × Unit) : OB := anyK (a8N cfg fin (bd f32) (a5B sig.ps d 65))
variable (k : Nat) (x2 : LL) (i3 : Int)
noncomputable def l4 : OB := Vm.runT cfg fin k [.inLoop (sub [1, 1, 0, 1, 0, 0] (bd f32)), .inBlock 0, .code (sub [1, 1, 1] (bd f32))] ⟨[.rptr false [cQ x2], dD, dD, vI i3] ++ a7W 61, []⟩
variable (x6 : LL) (i7 : Int) (x8 : LI) (i9 : Int)
noncomputable def l10 : OB := Vm.runT cfg fin k [.inLoop (sub [1, 1, 0, 1, 0, 0, 1, 0, 0, 1, 1, 1, 0, 0] (bd f32)), .inBlock 2, .inBlock 1, .code (sub [1, 1, 0, 1, 0, 0, 1, 1] (bd f32)), .inLoop (sub [1, 1, 0, 1, 0, 0] (bd f32)), .inBlock 0, .code (sub [1, 1, 1] (bd f32))] ⟨[.rptr false [cQ x6], dD, dD, vI i7, vL x8, vI i9] ++ a7W 59, []⟩
theorem l4_eq : l4 (k + 1) x2 i3 = if (decide (i3 < (x2.length : Int))) = true then if 0 ≤ i3 ∧ i3 < (x2.length : Int) then (Aq5.F (x2.getD i3.toNat ([] : LI), ())).bind fun r4 => if (!r4.1.1) = true then some ((false, ()), ()) else if (decide (i3 > 0)) = true then if 0 ≤ (IntKind.i64.wrap (i3 - 1)) ∧ (IntKind.i64.wrap (i3 - 1)) < (x2.length : Int) then (Ai7.F (x2.getD (IntKind.i64.wrap (i3 - 1)).toNat ([] : LI), x2.getD i3.toNat ([] : LI), ())).bind fun r5 => if (!r5.1.1) = true then some ((false, ()), ()) else l10 k x2 i3 (x2.getD i3.toNat ([] : LI)) (0 : Int) else none else l10 k x2 i3 (x2.getD i3.toNat ([] : LI)) (0 : Int) else none else some ((true, ()), ()) := by kernel_rfl
theorem l10_eq : l10 (k + 1) x6 i7 x8 i9 = if (decide (i9 < (x8.length : Int))) = true then if (decide ((x8.length : Int) > 1)) = true then (Ah5.F (x8, i9, ())).bind fun r10 => (Aa0.F (x6, r10.1.1, ())).bind fun r11 => if (decide (r11.1.1 < 0)) = true then some ((false, ()), ()) else l10 k x6 i7 x8 (IntKind.i64.wrap (i9 + 1)) else l4 k x6 (IntKind.i64.wrap (i7 + 1)) else l4 k x6 (IntKind.i64.wrap (i7 + 1)) := by kernel_rfl
variable (toArray_1 : LL)
noncomputable def T : OB := if (decide ((toArray_1.length : Int) > 48)) = true then some ((false, ()), ()) else l4 k toArray_1 (0 : Int)
theorem of {r} (h : Ev (fun k => T k toArray_1) r) : F (toArray_1, ()) = some r := Ev.run (fun k => by kernel_rfl) h
theorem S : a2Z prog ⟨32, sig, F⟩ := sound_k (res := [.tmp 2]) func32 (cok (cM ⟨Aq5.S, cM ⟨Ai7.S, cM ⟨Aa0.S, cM ⟨Ah5.S, nM⟩⟩⟩⟩))
end Aa4
namespace Ac1
noncomputable def sig : Sig := ⟨[qC, pI, pI], [oI]⟩
noncomputable def cfg : Cfg := cl (cx []) fun id => match id with | 3 => ([0, 1, 2, 7, 8], []) | _ => ([], [])
noncomputable def fin := finK cfg.c sig [.tmp 6]
noncomputable def F (d : LL × Int × Int × Unit) : OI := anyK (a8N cfg fin (bd f77) (a5B sig.ps d 36))
variable (k : Nat) (x4 : LL) (i5 i6 i7 i8 : Int)
noncomputable def l3 : OI := Vm.runT cfg fin k [.inLoop (sub [1, 1, 0, 1, 0, 0] (bd f77)), .inBlock 0, .code (sub [1, 1, 1] (bd f77))] ⟨[.rptr false [cQ x4], vI i5, vI i6, dD, dD, dD, dD, vI i7, vI i8] ++ a7W 27, []⟩
theorem l3_eq : l3 (k + 1) x4 i5 i6 i7 i8 = if (decide (i8 < i5)) = true then if 0 ≤ i8 ∧ i8 < (x4.length : Int) then if (decide (((x4.getD i8.toNat ([] : LI)).length : Int) > 1)) = true then if 0 ≤ i8 ∧ i8 < (x4.length : Int) then l3 k x4 i5 i6 (IntKind.i64.wrap (i7 + ((x4.getD i8.toNat ([] : LI)).length : Int))) (IntKind.i64.wrap (i8 + 1)) else none else l3 k x4 i5 i6 i7 (IntKind.i64.wrap (i8 + 1)) else none else some ((IntKind.i64.wrap (i7 + i6), ()), ()) := by kernel_rfl
variable (c_1 : LL) (simplex_2 i_3 : Int)
noncomputable def T : OI := l3 k c_1 simplex_2 i_3 (0 : Int) (0 : Int)
theorem of {r} (h : Ev (fun k => T k c_1 simplex_2 i_3) r) : F (c_1, simplex_2, i_3, ()) = some r := Ev.run (fun k => by kernel_rfl) h
theorem S : a2Z prog ⟨77, sig, F⟩ := sound_k (res := [.tmp 6]) func77 (cok nM)
end Ac1
namespace Ai6
noncomputable def sig : Sig := ⟨[pI], [oB]⟩
noncomputable def cfg : Cfg := cl (cx [⟨118, Aa5.sig, Aa5.F⟩]) fun id => match id with | 4 => ([0, 3], []) | _ => ([], [])
noncomputable def fin := finK cfg.c sig [.tmp 2]
noncomputable def F (d : Int × Unit) : OB := anyK (a8N cfg fin (bd f155) (a5B sig.ps d 18))
variable (k : Nat) (i3 i4 : Int)
noncomputable def l4 : OB := Vm.runT cfg fin k [.inLoop (sub [1, 1, 0, 1, 0, 0] (bd f155)), .inBlock 0, .code (sub [1, 1, 1] (bd f155))] ⟨[vI i3, dD, dD, vI i4] ++ a7W 14, []⟩
theorem l4_eq : l4 (k + 1) i3 i4 = if (decide ((IntKind.i64.wrap (i4 * i4)) ≤ i3)) = true then if i4 = 0 then none else if ((i3.tmod i4) == 0) = true then some ((false, ()), ()) else l4 k i3 (IntKind.i64.wrap (i4 + 1)) else some ((true, ()), ()) := by kernel_rfl
variable (p_1 : Int)
noncomputable def T : OB := (Aa5.F (p_1, (2 : Int), (251 : Int), ())).bind fun r2 => if (!r2.1.1) = true then some ((false, ()), ()) else l4 k p_1 (2 : Int)
theorem of {r} (h : Ev (fun k => T k p_1) r) : F (p_1, ()) = some r := Ev.run (fun k => by kernel_rfl) h
theorem S : a2Z prog ⟨155, sig, F⟩ := sound_k (res := [.tmp 2]) func155 (cok (cM ⟨Aa5.S, nM⟩))
end Ai6
namespace Aj6
noncomputable def sig : Sig := ⟨[pI], [oB]⟩
noncomputable def cfg : Cfg := cf (cx [⟨155, Ai6.sig, Ai6.F⟩])
noncomputable def fin := finK cfg.c sig [.tmp 2]
noncomputable def F (d : Int × Unit) : OB := anyK (a8N cfg fin (bd f112) (a5B sig.ps d 5))
variable (p_1 : Int)
noncomputable def T : OB := (Ai6.F (p_1, ())).bind fun r2 => some ((r2.1.1, ()), ())
theorem eq : F (p_1, ()) = T p_1 := eq_any fun k => by kernel_rfl
theorem S : a2Z prog ⟨112, sig, F⟩ := sound_k (res := [.tmp 2]) func112 (cok (cM ⟨Ai6.S, nM⟩))
end Aj6
namespace Aa9
noncomputable def sig : Sig := ⟨[qC, pI], [oL]⟩
noncomputable def cfg : Cfg := cl (cx []) fun id => match id with | 3 => ([0, 1, 5, 6], [20]) | _ => ([], [])
noncomputable def fin := finK cfg.c sig [.tmp 4]
noncomputable def F (d : LL × Int × Unit) : OL := anyK (a8N cfg fin (bd f52) (a5B sig.ps d 33))
variable (k : Nat) (x3 : LL) (i4 i5 : Int) (x6 : LI)
noncomputable def l3 : OL := Vm.runT cfg fin k [.inLoop (sub [1, 1, 0, 1, 0, 0] (bd f52)), .inBlock 0, .code (sub [1, 1, 1] (bd f52))] ⟨[.rptr false [cQ x3], vI i4, dD, dD, dD, .view 20 (.root 0) 1 false, vI i5] ++ a7W 26, [(20, ⟨false, [dL x6]⟩)]⟩
theorem l3_eq : l3 (k + 1) x3 i4 i5 x6 = if (decide (i5 < (x3.length : Int))) = true then if 0 ≤ i5 ∧ i5 < (x3.length : Int) then if (((x3.getD i5.toNat ([] : LI)).length : Int) == (IntKind.i64.wrap (i4 + 1))) = true then if x6.length + [i5].length ≤ bigA then l3 k x3 i4 (IntKind.i64.wrap (i5 + 1)) (x6 ++ [i5]) else none else l3 k x3 i4 (IntKind.i64.wrap (i5 + 1)) x6 else none else some ((x6, ()), ()) := by kernel_rfl
variable (c_1 : LL) (dimension_2 : Int)
noncomputable def T : OL := l3 k c_1 dimension_2 (0 : Int) ([] : LI)
theorem of {r} (h : Ev (fun k => T k c_1 dimension_2) r) : F (c_1, dimension_2, ()) = some r := Ev.run (fun k => by kernel_rfl) h
theorem S : a2Z prog ⟨52, sig, F⟩ := sound_k (res := [.tmp 4]) func52 (cok nM)
end Aa9
namespace Ad8
noncomputable def sig : Sig := ⟨[qC, pL, pI], [oI]⟩
noncomputable def cfg : Cfg := cl (cx [⟨52, Aa9.sig, Aa9.F⟩]) fun id => match id with | 4 => ([1, 7, 8, 9], [28]) | _ => ([], [])
noncomputable def fin := finK cfg.c sig [.tmp 6]
noncomputable def F (d : LL × LI × Int × Unit) : OI := anyK (a8N cfg fin (bd f148) (a5B sig.ps d 29))
variable (k : Nat) (x5 : LI) (i6 i7 : Int) (x8 : LI)
noncomputable def l4 : OI := Vm.runT cfg fin k [.inLoop (sub [1, 1, 1, 0, 1, 0, 0] (bd f148)), .inBlock 0, .code (sub [1, 1, 1, 1] (bd f148))] ⟨[dD, vL x5, dD, dD, dD, dD, dD, .view 28 (.root 0) 1 false, vI i6, vI i7] ++ a7W 19, [(28, ⟨false, [dL x8]⟩)]⟩
theorem l4_eq : l4 (k + 1) x5 i6 i7 x8 = if (decide (i7 < (x8.length : Int))) = true then if 0 ≤ i7 ∧ i7 < (x8.length : Int) then if 0 ≤ (x8.getD i7.toNat 0 : Int) ∧ (x8.getD i7.toNat 0 : Int) < (x5.length : Int) then l4 k x5 (IntKind.i64.wrap (i6 + (x5.getD (x8.getD i7.toNat 0 : Int).toNat 0))) (IntKind.i64.wrap (i7 + 1)) x8 else none else none else some ((i6, ()), ()) := by kernel_rfl
variable (c_1 : LL) (stalks_2 : LI) (k_3 : Int)
noncomputable def T : OI := (Aa9.F (c_1, k_3, ())).bind fun r4 => l4 k stalks_2 (0 : Int) (0 : Int) r4.1.1
theorem of {r} (h : Ev (fun k => T k c_1 stalks_2 k_3) r) : F (c_1, stalks_2, k_3, ()) = some r := Ev.run (fun k => by kernel_rfl) h
theorem S : a2Z prog ⟨148, sig, F⟩ := sound_k (res := [.tmp 6]) func148 (cok (cM ⟨Aa9.S, nM⟩))
end Ad8
namespace Ah2
noncomputable def sig : Sig := ⟨[pL, pI, pI], [oB]⟩
noncomputable def cfg : Cfg := cl (cx [⟨118, Aa5.sig, Aa5.F⟩]) fun id => match id with | 2 => ([0, 1, 2, 7], []) | _ => ([], [])
noncomputable def fin := finK cfg.c sig [.tmp 6]
noncomputable def F (d : LI × Int × Int × Unit) : OB := anyK (a8N cfg fin (bd f156) (a5B sig.ps d 26))
variable (k : Nat) (x4 : LI) (i5 i6 i7 : Int)
noncomputable def l2 : OB := Vm.runT cfg fin k [.inLoop (sub [1, 0, 1, 0, 0] (bd f156)), .inBlock 0, .code (sub [1, 1] (bd f156))] ⟨[vL x4, vI i5, vI i6, dD, dD, dD, dD, vI i7] ++ a7W 18, []⟩
theorem l2_eq : l2 (k + 1) x4 i5 i6 i7 = if (decide (i7 < (x4.length : Int))) = true then if 0 ≤ i7 ∧ i7 < (x4.length : Int) then (Aa5.F ((x4.getD i7.toNat 0 : Int), (0 : Int), IntKind.i64.wrap (i6 - 1), ())).bind fun r8 => if (!r8.1.1) = true then some ((false, ()), ()) else l2 k x4 i5 i6 (IntKind.i64.wrap (i7 + 1)) else none else some (((x4.length : Int) == i5, ()), ()) := by kernel_rfl
variable (v_1 : LI) (n_2 p_3 : Int)
noncomputable def T : OB := l2 k v_1 n_2 p_3 (0 : Int)
theorem of {r} (h : Ev (fun k => T k v_1 n_2 p_3) r) : F (v_1, n_2, p_3, ()) = some r := Ev.run (fun k => by kernel_rfl) h
theorem S : a2Z prog ⟨156, sig, F⟩ := sound_k (res := [.tmp 6]) func156 (cok (cM ⟨Aa5.S, nM⟩))
end Ah2
namespace Ai8
noncomputable def sig : Sig := ⟨[qC, pL], [oB]⟩
noncomputable def cfg : Cfg := cl (cx [⟨148, Ad8.sig, Ad8.F⟩, ⟨156, Ah2.sig, Ah2.F⟩]) fun id => match id with | 4 => ([0, 1, 5], []) | _ => ([], [])
noncomputable def fin := finK cfg.c sig [.tmp 4]
noncomputable def F (d : LL × LI × Unit) : OB := anyK (a8N cfg fin (bd f113) (a5B sig.ps d 23))
variable (k : Nat) (x4 : LL) (x5 : LI) (i6 : Int)
noncomputable def l4 : OB := Vm.runT cfg fin k [.inLoop (sub [1, 1, 0, 1, 0, 0] (bd f113)), .inBlock 0, .code (sub [1, 1, 1] (bd f113))] ⟨[.rptr false [cQ x4], vL x5, dD, dD, dD, vI i6] ++ a7W 17, []⟩
theorem l4_eq : l4 (k + 1) x4 x5 i6 = if (decide (i6 ≤ 3)) = true then (Ad8.F (x4, x5, i6, ())).bind fun r7 => if (decide (r7.1.1 > 32)) = true then some ((false, ()), ()) else l4 k x4 x5 (IntKind.i64.wrap (i6 + 1)) else some ((true, ()), ()) := by kernel_rfl
variable (c_1 : LL) (stalks_2 : LI)
noncomputable def T : OB := (Ah2.F (stalks_2, (c_1.length : Int), (4 : Int), ())).bind fun r3 => if (!r3.1.1) = true then some ((false, ()), ()) else l4 k c_1 stalks_2 (0 : Int)
theorem of {r} (h : Ev (fun k => T k c_1 stalks_2) r) : F (c_1, stalks_2, ()) = some r := Ev.run (fun k => by kernel_rfl) h
theorem S : a2Z prog ⟨113, sig, F⟩ := sound_k (res := [.tmp 4]) func113 (cok (cM ⟨Ad8.S, cM ⟨Ah2.S, nM⟩⟩))
end Ai8
namespace Ar5
noncomputable def sig : Sig := ⟨[qC], [oI]⟩
noncomputable def cfg : Cfg := cf (cx [⟨77, Ac1.sig, Ac1.F⟩])
noncomputable def fin := finK cfg.c sig [.tmp 2]
noncomputable def F (d : LL × Unit) : OI := anyK (a8N cfg fin (bd f114) (a5B sig.ps d 10))
variable (c_1 : LL)
noncomputable def T : OI := (Ac1.F (c_1, (c_1.length : Int), (0 : Int), ())).bind fun r2 => some ((r2.1.1, ()), ())
theorem eq : F (c_1, ()) = T c_1 := eq_any fun k => by kernel_rfl
theorem S : a2Z prog ⟨114, sig, F⟩ := sound_k (res := [.tmp 2]) func114 (cok (cM ⟨Ac1.S, nM⟩))
end Ar5
namespace Aa2
noncomputable def sig : Sig := ⟨[qC, pI], [oL]⟩
noncomputable def cfg : Cfg := cl (cx [⟨71, Aa0.sig, Aa0.F⟩, ⟨72, Ah5.sig, Ah5.F⟩]) fun id => match id with | 4 => ([0, 5, 6, 7], [24]) | _ => ([], [])
noncomputable def fin := finK cfg.c sig [.tmp 4]
noncomputable def F (d : LL × Int × Unit) : OL := anyK (a8N cfg fin (bd f75) (a5B sig.ps d 36))
variable (k : Nat) (x3 : LL) (x4 : LI) (i5 : Int) (x6 : LI)
noncomputable def l4 : OL := Vm.runT cfg fin k [.inLoop (sub [1, 1, 1, 0, 1, 0, 0] (bd f75)), .inBlock 0, .code (sub [1, 1, 1, 1] (bd f75))] ⟨[.rptr false [cQ x3], dD, dD, dD, dD, vL x4, .view 24 (.root 0) 1 false, vI i5] ++ a7W 28, [(24, ⟨false, [dL x6]⟩)]⟩
theorem l4_eq : l4 (k + 1) x3 x4 i5 x6 = if (decide (i5 < (x4.length : Int))) = true then if (decide ((x4.length : Int) > 1)) = true then (Ah5.F (x4, i5, ())).bind fun r7 => (Aa0.F (x3, r7.1.1, ())).bind fun r8 => if x6.length + [r8.1.1].length ≤ bigA then l4 k x3 x4 (IntKind.i64.wrap (i5 + 1)) (x6 ++ [r8.1.1]) else none else some ((x6, ()), ()) else some ((x6, ()), ()) := by kernel_rfl
variable (c_1 : LL) (k_2 : Int)
noncomputable def T : OL := if 0 ≤ k_2 ∧ k_2 < (c_1.length : Int) then l4 k c_1 (c_1.getD k_2.toNat ([] : LI)) (0 : Int) ([] : LI) else none
theorem of {r} (h : Ev (fun k => T k c_1 k_2) r) : F (c_1, k_2, ()) = some r := Ev.run (fun k => by kernel_rfl) h
theorem S : a2Z prog ⟨75, sig, F⟩ := sound_k (res := [.tmp 4]) func75 (cok (cM ⟨Aa0.S, cM ⟨Ah5.S, nM⟩⟩))
end Aa2
namespace Aq3
noncomputable def sig : Sig := ⟨[qM], [oB]⟩
noncomputable def cfg : Cfg := cf (cx [⟨112, Aj6.sig, Aj6.F⟩, ⟨118, Aa5.sig, Aa5.F⟩, ⟨156, Ah2.sig, Ah2.F⟩])
noncomputable def fin := finK cfg.c sig [.tmp 2]
noncomputable def F (d : MX × Unit) : OB := anyK (a8N cfg fin (bd f157) (a5B sig.ps d 42))
variable (m_1 m_2 m_3 : Int) (m_4 : LI)
noncomputable def T : OB := (Aj6.F (m_1, ())).bind fun r5 => if r5.1.1 = true then (Aa5.F (m_2, (0 : Int), (32 : Int), ())).bind fun r6 => if r6.1.1 = true then (Aa5.F (m_3, (0 : Int), (32 : Int), ())).bind fun r7 => if r7.1.1 = true then (Ah2.F (m_4, IntKind.i64.wrap (m_2 * m_3), m_1, ())).bind fun r8 => some ((r8.1.1, ()), ()) else some ((false, ()), ()) else some ((false, ()), ()) else some ((false, ()), ())
theorem eq : F ((m_1, (m_2, (m_3, m_4))), ()) = T m_1 m_2 m_3 m_4 := eq_any fun k => by kernel_rfl
theorem S : a2Z prog ⟨157, sig, F⟩ := sound_k (res := [.tmp 2]) func157 (cok (cM ⟨Aj6.S, cM ⟨Aa5.S, cM ⟨Ah2.S, nM⟩⟩⟩))
end Aq3
namespace Aq6
noncomputable def sig : Sig := ⟨[qS, pI, pI, qM], [oB]⟩
noncomputable def cfg : Cfg := cf (cx [⟨75, Aa2.sig, Aa2.F⟩, ⟨157, Aq3.sig, Aq3.F⟩])
noncomputable def fin := finK cfg.c sig [.tmp 8]
noncomputable def F (d : SF × Int × Int × MX × Unit) : OB := anyK (a8N cfg fin (bd f115) (a5B sig.ps d 59))
noncomputable def T (s_1 : LL) (s_2 : Int) (s_3 : LI) (s_4 : LM) (simplex_5 i_6 m_7 m_8 m_9 : Int) (m_10 : LI) : OB := (Aa2.F (s_1, simplex_5, ())).bind fun r11 => if 0 ≤ i_6 ∧ i_6 < (r11.1.1.length : Int) then (Aq3.F ((m_7, (m_8, (m_9, m_10))), ())).bind fun r12 => if r12.1.1 = true then if (m_7 == s_2) = true then if 0 ≤ simplex_5 ∧ simplex_5 < (s_3.length : Int) then if (m_8 == (s_3.getD simplex_5.toNat 0 : Int)) = true then if 0 ≤ (r11.1.1.getD i_6.toNat 0 : Int) ∧ (r11.1.1.getD i_6.toNat 0 : Int) < (s_3.length : Int) then some ((m_9 == (s_3.getD (r11.1.1.getD i_6.toNat 0 : Int).toNat 0), ()), ()) else none else some ((false, ()), ()) else none else some ((false, ()), ()) else some ((false, ()), ()) else none
theorem eq (s_1 : LL) (s_2 : Int) (s_3 : LI) (s_4 : LM) (simplex_5 i_6 m_7 m_8 m_9 : Int) (m_10 : LI) : F ((s_1, (s_2, (s_3, s_4))), simplex_5, i_6, (m_7, (m_8, (m_9, m_10))), ()) = T s_1 s_2 s_3 s_4 simplex_5 i_6 m_7 m_8 m_9 m_10 := eq_any fun k => by kernel_rfl
theorem S : a2Z prog ⟨115, sig, F⟩ := sound_k (res := [.tmp 8]) func115 (cok (cM ⟨Aa2.S, cM ⟨Aq3.S, nM⟩⟩))
end Aq6
namespace Ab1
noncomputable def sig : Sig := ⟨[qS], [oB]⟩
noncomputable def cfg : Cfg := cl (cx [⟨32, Aa4.sig, Aa4.F⟩, ⟨77, Ac1.sig, Ac1.F⟩, ⟨112, Aj6.sig, Aj6.F⟩, ⟨113, Ai8.sig, Ai8.F⟩, ⟨114, Ar5.sig, Ar5.F⟩, ⟨115, Aq6.sig, Aq6.F⟩]) fun id => match id with | 4 => ([0, 3], []) | 7 => ([0, 3, 4], []) | _ => ([], [])
noncomputable def fin := finK cfg.c sig [.tmp 2]
noncomputable def F (d : SF × Unit) : OB := anyK (a8N cfg fin (bd f67) (a5B sig.ps d 92))
variable (k : Nat) (x9 : LL) (i10 : Int) (x11 : LI) (x12 : LM) (i13 : Int)
noncomputable def l4 : OB := Vm.runT cfg fin k [.inLoop (sub [1, 1, 0, 1, 0, 0] (bd f67)), .inBlock 0, .code (sub [1, 1, 1] (bd f67))] ⟨[.rptr false [cQ x9, cI i10, cL x11, ⟨(.sl TMatrix), .sh, x12⟩], dD, dD, vI i13] ++ a7W 88, []⟩
variable (x14 : LL) (i15 : Int) (x16 : LI) (x17 : LM) (i18 i19 : Int)
noncomputable def l7 : OB := Vm.runT cfg fin k [.inLoop (sub [1, 1, 0, 1, 0, 0, 1, 0, 0, 1, 0, 0] (bd f67)), .inBlock 2, .inBlock 1, .code (sub [1, 1, 0, 1, 0, 0, 1, 1] (bd f67)), .inLoop (sub [1, 1, 0, 1, 0, 0] (bd f67)), .inBlock 0, .code (sub [1, 1, 1] (bd f67))] ⟨[.rptr false [cQ x14, cI i15, cL x16, ⟨(.sl TMatrix), .sh, x17⟩], dD, dD, vI i18, vI i19] ++ a7W 87, []⟩
theorem l4_eq : l4 (k + 1) x9 i10 x11 x12 i13 = if (decide (i13 < (x9.length : Int))) = true then l7 k x9 i10 x11 x12 i13 (0 : Int) else some ((true, ()), ()) := by kernel_rfl
theorem l7_eq : l7 (k + 1) x14 i15 x16 x17 i18 i19 = if 0 ≤ i18 ∧ i18 < (x14.length : Int) then if (decide (i19 < ((x14.getD i18.toNat ([] : LI)).length : Int))) = true then if 0 ≤ i18 ∧ i18 < (x14.length : Int) then if (decide (((x14.getD i18.toNat ([] : LI)).length : Int) > 1)) = true then (Ac1.F (x14, i18, i19, ())).bind fun r20 => if 0 ≤ r20.1.1 ∧ r20.1.1 < (x17.length : Int) then (Aq6.F ((x14, (i15, (x16, x17))), i18, i19, x17.getD r20.1.1.toNat (0, 0, 0, ([] : LI)), ())).bind fun r21 => if (!r21.1.1) = true then some ((false, ()), ()) else l7 k x14 i15 x16 x17 i18 (IntKind.i64.wrap (i19 + 1)) else none else l4 k x14 i15 x16 x17 (IntKind.i64.wrap (i18 + 1)) else none else l4 k x14 i15 x16 x17 (IntKind.i64.wrap (i18 + 1)) else none := by kernel_rfl
variable (toArray_1 : LL) (toArray_2 : Int) (toArray_3 : LI) (toArray_4 : LM)
noncomputable def T : OB := (Aa4.F (toArray_1, ())).bind fun r5 => if (!r5.1.1) = true then some ((false, ()), ()) else (Aj6.F (toArray_2, ())).bind fun r6 => if (!r6.1.1) = true then some ((false, ()), ()) else (Ai8.F (toArray_1, toArray_3, ())).bind fun r7 => if (!r7.1.1) = true then some ((false, ()), ()) else (Ar5.F (toArray_1, ())).bind fun r8 => if ((toArray_4.length : Int) != r8.1.1) = true then some ((false, ()), ()) else l4 k toArray_1 toArray_2 toArray_3 toArray_4 (0 : Int)
theorem of {r} (h : Ev (fun k => T k toArray_1 toArray_2 toArray_3 toArray_4) r) : F ((toArray_1, (toArray_2, (toArray_3, toArray_4))), ()) = some r := Ev.run (fun k => by kernel_rfl) h
theorem S : a2Z prog ⟨67, sig, F⟩ := sound_k (res := [.tmp 2]) func67 (cok (cM ⟨Aa4.S, cM ⟨Ac1.S, cM ⟨Aj6.S, cM ⟨Ai8.S, cM ⟨Ar5.S, cM ⟨Aq6.S, nM⟩⟩⟩⟩⟩⟩))
end Ab1
namespace Ae9
noncomputable def sig : Sig := ⟨[pI, pI, pI], [oM]⟩
noncomputable def cfg : Cfg := cf (cx [])
noncomputable def fin := finK cfg.c sig [.cell 6 86]
noncomputable def F (d : Int × Int × Int × Unit) : OM := anyK (a8N cfg fin (bd f124) (a5B sig.ps d 15))
variable (p_1 rows_2 columns_3 : Int)
noncomputable def T : OM := if 0 ≤ (IntKind.i64.wrap (rows_2 * columns_3)) ∧ (IntKind.i64.wrap (rows_2 * columns_3)) ≤ (bigN : Int) then some (((p_1, (rows_2, (columns_3, List.replicate (IntKind.i64.wrap (rows_2 * columns_3)).toNat 0))), ()), ()) else none
theorem eq : F (p_1, rows_2, columns_3, ()) = T p_1 rows_2 columns_3 := eq_any fun k => by kernel_rfl
theorem S : a2Z prog ⟨124, sig, F⟩ := sound_k (res := [.cell 6 86]) func124 (cok nM)
end Ae9
namespace Ad2
noncomputable def sig : Sig := ⟨[qM, qM], [oM]⟩
noncomputable def cfg : Cfg := cl (cx [⟨124, Ae9.sig, Ae9.F⟩]) fun id => match id with | 3 => ([0, 1, 4, 5, 6], [16, 20]) | 6 => ([0, 1, 4, 5, 6, 7], [16, 20]) | 10 => ([0, 1, 4, 5, 6, 7, 8, 9], [16, 20]) | _ => ([], [])
noncomputable def fin := finK cfg.c sig [.cell 4 86]
noncomputable def F (d : MX × MX × Unit) : OM := anyK (a8N cfg fin (bd f126) (a5B sig.ps d 96))
variable (k : Nat) (i10 i11 i12 : Int) (x13 : LI) (i14 i15 i16 : Int) (x17 : LI) (i18 i19 i20 i21 : Int) (x22 : LI) (i23 i24 i25 : Int) (x26 : LI)
noncomputable def l3 : OM := Vm.runT cfg fin k [.inLoop (sub [1, 1, 0, 1, 0, 0] (bd f126)), .inBlock 0, .code (sub [1, 1, 1] (bd f126))] ⟨[.rptr false [cI i10, cI i11, cI i12, cL x13], .rptr false [cI i14, cI i15, cI i16, cL x17], dD, dD, .ref 16 (.root 0), .ref 20 (.root 0), vI i18] ++ a7W 89, [(16, ⟨true, [cI i19, cI i20, cI i21, dL x22]⟩), (20, ⟨true, [cI i23, cI i24, cI i25, dL x26]⟩)]⟩
variable (i27 i28 i29 : Int) (x30 : LI) (i31 i32 i33 : Int) (x34 : LI) (i35 i36 i37 i38 i39 : Int) (x40 : LI) (i41 i42 i43 : Int) (x44 : LI)
noncomputable def l6 : OM := Vm.runT cfg fin k [.inLoop (sub [1, 1, 0, 1, 0, 0, 1, 0, 0, 1, 0, 0] (bd f126)), .inBlock 2, .inBlock 1, .code (sub [1, 1, 0, 1, 0, 0, 1, 1] (bd f126)), .inLoop (sub [1, 1, 0, 1, 0, 0] (bd f126)), .inBlock 0, .code (sub [1, 1, 1] (bd f126))] ⟨[.rptr false [cI i27, cI i28, cI i29, cL x30], .rptr false [cI i31, cI i32, cI i33, cL x34], dD, dD, .ref 16 (.root 0), .ref 20 (.root 0), vI i35, vI i36] ++ a7W 88, [(16, ⟨true, [cI i37, cI i38, cI i39, dL x40]⟩), (20, ⟨true, [cI i41, cI i42, cI i43, dL x44]⟩)]⟩
variable (i45 i46 i47 : Int) (x48 : LI) (i49 i50 i51 : Int) (x52 : LI) (i53 i54 i55 i56 i57 i58 i59 : Int) (x60 : LI) (i61 i62 i63 : Int) (x64 : LI)
noncomputable def l10 : OM := Vm.runT cfg fin k [.inLoop (sub [1, 1, 0, 1, 0, 0, 1, 0, 0, 1, 0, 0, 1, 0, 0, 1, 0, 1, 0, 0] (bd f126)), .inBlock 4, .code (sub [1, 1, 0, 1, 0, 0, 1, 0, 0, 1, 0, 0, 1, 0, 0, 1, 1] (bd f126)), .inBlock 3, .code (sub [1, 1, 0, 1, 0, 0, 1, 0, 0, 1, 0, 0, 1, 1] (bd f126)), .inLoop (sub [1, 1, 0, 1, 0, 0, 1, 0, 0, 1, 0, 0] (bd f126)), .inBlock 2, .inBlock 1, .code (sub [1, 1, 0, 1, 0, 0, 1, 1] (bd f126)), .inLoop (sub [1, 1, 0, 1, 0, 0] (bd f126)), .inBlock 0, .code (sub [1, 1, 1] (bd f126))] ⟨[.rptr false [cI i45, cI i46, cI i47, cL x48], .rptr false [cI i49, cI i50, cI i51, cL x52], dD, dD, .ref 16 (.root 0), .ref 20 (.root 0), vI i53, vI i54, vI i55, vI i56] ++ a7W 86, [(16, ⟨true, [cI i57, cI i58, cI i59, dL x60]⟩), (20, ⟨true, [cI i61, cI i62, cI i63, dL x64]⟩)]⟩
theorem l3_eq : l3 (k + 1) i10 i11 i12 x13 i14 i15 i16 x17 i18 i19 i20 i21 x22 i23 i24 i25 x26 = if (decide (i18 < i11)) = true then l6 k i10 i11 i12 x13 i14 i15 i16 x17 i18 (0 : Int) i19 i20 i21 x22 i23 i24 i25 x26 else some (((i23, (i24, (i25, x26))), ()), ()) := by kernel_rfl
theorem l6_eq : l6 (k + 1) i27 i28 i29 x30 i31 i32 i33 x34 i35 i36 i37 i38 i39 x40 i41 i42 i43 x44 = if (decide (i36 < i33)) = true then l10 k i27 i28 i29 x30 i31 i32 i33 x34 i35 i36 (0 : Int) (0 : Int) i37 i38 i39 x40 i41 i42 i43 x44 else l3 k i27 i28 i29 x30 i31 i32 i33 x34 (IntKind.i64.wrap (i35 + 1)) i37 i38 i39 x40 i41 i42 i43 x44 := by kernel_rfl
theorem l10_eq : l10 (k + 1) i45 i46 i47 x48 i49 i50 i51 x52 i53 i54 i55 i56 i57 i58 i59 x60 i61 i62 i63 x64 = if (decide (i56 < i47)) = true then if 0 ≤ (IntKind.i64.wrap ((IntKind.i64.wrap (i53 * i47)) + i56)) ∧ (IntKind.i64.wrap ((IntKind.i64.wrap (i53 * i47)) + i56)) < (x48.length : Int) then if 0 ≤ (IntKind.i64.wrap ((IntKind.i64.wrap (i56 * i51)) + i54)) ∧ (IntKind.i64.wrap ((IntKind.i64.wrap (i56 * i51)) + i54)) < (x52.length : Int) then l10 k i45 i46 i47 x48 i49 i50 i51 x52 i53 i54 (IntKind.i64.wrap (i55 + (IntKind.i64.wrap ((x48.getD (IntKind.i64.wrap ((IntKind.i64.wrap (i53 * i47)) + i56)).toNat 0 : Int) * (x52.getD (IntKind.i64.wrap ((IntKind.i64.wrap (i56 * i51)) + i54)).toNat 0 : Int))))) (IntKind.i64.wrap (i56 + 1)) i57 i58 i59 x60 i61 i62 i63 x64 else none else none else if i45 = 0 then none else if 0 ≤ (IntKind.i64.wrap ((IntKind.i64.wrap (i53 * i51)) + i54)) ∧ (IntKind.i64.wrap ((IntKind.i64.wrap (i53 * i51)) + i54)) < (x64.length : Int) then l6 k i45 i46 i47 x48 i49 i50 i51 x52 i53 (IntKind.i64.wrap (i54 + 1)) i57 i58 i59 x60 i61 i62 i63 (x64.set (IntKind.i64.wrap ((IntKind.i64.wrap (i53 * i51)) + i54)).toNat (i55.tmod i45)) else none := by kernel_rfl
variable (toArray_1 toArray_2 toArray_3 : Int) (toArray_4 : LI) (a_5 a_6 a_7 : Int) (a_8 : LI)
noncomputable def T : OM := (Ae9.F (toArray_1, toArray_2, a_7, ())).bind fun r9 => l3 k toArray_1 toArray_2 toArray_3 toArray_4 a_5 a_6 a_7 a_8 (0 : Int) 0 0 0 ([]) r9.1.1.1 r9.1.1.2.1 r9.1.1.2.2.1 r9.1.1.2.2.2
theorem of {r} (h : Ev (fun k => T k toArray_1 toArray_2 toArray_3 toArray_4 a_5 a_6 a_7 a_8) r) : F ((toArray_1, (toArray_2, (toArray_3, toArray_4))), (a_5, (a_6, (a_7, a_8))), ()) = some r := Ev.run (fun k => by kernel_rfl) h
theorem S : a2Z prog ⟨126, sig, F⟩ := sound_k (res := [.cell 4 86]) func126 (cok (cM ⟨Ae9.S, nM⟩))
end Ad2
namespace Aa6
noncomputable def sig : Sig := ⟨[qS, pI, pI], [(.ptr, TMatrix, .sh)]⟩
noncomputable def cfg : Cfg := cf (cx [⟨77, Ac1.sig, Ac1.F⟩])
noncomputable def fin := finK cfg.c sig [.tmp 6]
noncomputable def F (d : SF × Int × Int × Unit) : OM := anyK (a8N cfg fin (bd f127) (a5B sig.ps d 18))
noncomputable def T (s_1 : LL) (s_2 : Int) (s_3 : LI) (s_4 : LM) (simplex_5 i_6 : Int) : OM := (Ac1.F (s_1, simplex_5, i_6, ())).bind fun r7 => if 0 ≤ r7.1.1 ∧ r7.1.1 < (s_4.length : Int) then some ((s_4.getD r7.1.1.toNat (0, 0, 0, ([] : LI)), ()), ()) else none
theorem eq (s_1 : LL) (s_2 : Int) (s_3 : LI) (s_4 : LM) (simplex_5 i_6 : Int) : F ((s_1, (s_2, (s_3, s_4))), simplex_5, i_6, ()) = T s_1 s_2 s_3 s_4 simplex_5 i_6 := eq_any fun k => by kernel_rfl
theorem S : a2Z prog ⟨127, sig, F⟩ := sound_k (res := [.tmp 6]) func127 (cok (cM ⟨Ac1.S, nM⟩))
end Aa6
namespace Ah6
noncomputable def sig : Sig := ⟨[qS, pI, pI, pI], [oM]⟩
noncomputable def cfg : Cfg := cf (cx [⟨75, Aa2.sig, Aa2.F⟩, ⟨126, Ad2.sig, Ad2.F⟩, ⟨127, Aa6.sig, Aa6.F⟩])
noncomputable def fin := finK cfg.c sig [.cell 8 86]
noncomputable def F (d : SF × Int × Int × Int × Unit) : OM := anyK (a8N cfg fin (bd f116) (a5B sig.ps d 32))
variable (s_1 : LL) (s_2 : Int) (s_3 : LI) (s_4 : LM) (simplex_5 i_6 j_7 : Int)
noncomputable def T : OM := (Aa2.F (s_1, simplex_5, ())).bind fun r8 => if 0 ≤ i_6 ∧ i_6 < (r8.1.1.length : Int) then if (decide (j_7 > i_6)) = true then (Aa6.F ((s_1, (s_2, (s_3, s_4))), simplex_5, i_6, ())).bind fun r9 => (Aa6.F ((s_1, (s_2, (s_3, s_4))), (r8.1.1.getD i_6.toNat 0 : Int), IntKind.i64.wrap (j_7 - (1 : Int)), ())).bind fun r10 => (Ad2.F (r9.1.1, r10.1.1, ())).bind fun r11 => some ((r11.1.1, ()), ()) else (Aa6.F ((s_1, (s_2, (s_3, s_4))), simplex_5, i_6, ())).bind fun r12 => (Aa6.F ((s_1, (s_2, (s_3, s_4))), (r8.1.1.getD i_6.toNat 0 : Int), j_7, ())).bind fun r13 => (Ad2.F (r12.1.1, r13.1.1, ())).bind fun r14 => some ((r14.1.1, ()), ()) else none
theorem eq : F ((s_1, (s_2, (s_3, s_4))), simplex_5, i_6, j_7, ()) = T s_1 s_2 s_3 s_4 simplex_5 i_6 j_7 := eq_any fun k => by kernel_rfl
theorem S : a2Z prog ⟨116, sig, F⟩ := sound_k (res := [.cell 8 86]) func116 (cok (cM ⟨Aa2.S, cM ⟨Ad2.S, cM ⟨Aa6.S, nM⟩⟩⟩))
end Ah6
namespace Ae4
noncomputable def sig : Sig := ⟨[qM, qM], [oB]⟩
noncomputable def cfg : Cfg := cl (cx []) fun id => match id with | 4 => ([0, 1, 5], []) | _ => ([], [])
noncomputable def fin := finK cfg.c sig [.tmp 4]
noncomputable def F (d : MX × MX × Unit) : OB := anyK (a8N cfg fin (bd f117) (a5B sig.ps d 74))
variable (k : Nat) (i9 i10 i11 : Int) (x12 : LI) (i13 i14 i15 : Int) (x16 : LI) (i17 : Int)
noncomputable def l4 : OB := Vm.runT cfg fin k [.inLoop (sub [1, 1, 0, 1, 0, 0] (bd f117)), .inBlock 0, .code (sub [1, 1, 1] (bd f117))] ⟨[.rptr false [cI i9, cI i10, cI i11, cL x12], .rptr false [cI i13, cI i14, cI i15, cL x16], dD, dD, dD, vI i17] ++ a7W 68, []⟩
theorem l4_eq : l4 (k + 1) i9 i10 i11 x12 i13 i14 i15 x16 i17 = if (decide (i17 < (x12.length : Int))) = true then if 0 ≤ i17 ∧ i17 < (x12.length : Int) then if 0 ≤ i17 ∧ i17 < (x16.length : Int) then if ((x12.getD i17.toNat 0 : Int) != (x16.getD i17.toNat 0 : Int)) = true then some ((false, ()), ()) else l4 k i9 i10 i11 x12 i13 i14 i15 x16 (IntKind.i64.wrap (i17 + 1)) else none else none else some ((true, ()), ()) := by kernel_rfl
variable (toArray_1 toArray_2 toArray_3 : Int) (toArray_4 : LI) (a_5 a_6 a_7 : Int) (a_8 : LI)
noncomputable def T : OB := if (toArray_1 != a_5) = true then some ((false, ()), ()) else if (toArray_2 != a_6) = true then some ((false, ()), ()) else if (toArray_3 != a_7) = true then some ((false, ()), ()) else if ((toArray_4.length : Int) != (a_8.length : Int)) = true then some ((false, ()), ()) else l4 k toArray_1 toArray_2 toArray_3 toArray_4 a_5 a_6 a_7 a_8 (0 : Int)
theorem of {r} (h : Ev (fun k => T k toArray_1 toArray_2 toArray_3 toArray_4 a_5 a_6 a_7 a_8) r) : F ((toArray_1, (toArray_2, (toArray_3, toArray_4))), (a_5, (a_6, (a_7, a_8))), ()) = some r := Ev.run (fun k => by kernel_rfl) h
theorem S : a2Z prog ⟨117, sig, F⟩ := sound_k (res := [.tmp 4]) func117 (cok nM)
end Ae4
namespace Ac2
noncomputable def sig : Sig := ⟨[qS], [oI, oI, oI]⟩
noncomputable def cfg : Cfg := cl (cx [⟨116, Ah6.sig, Ah6.F⟩, ⟨117, Ae4.sig, Ae4.F⟩]) fun id => match id with | 2 => ([0, 5], []) | 6 => ([0, 5, 6, 7], []) | 9 => ([0, 5, 6, 7, 8], []) | _ => ([], [])
noncomputable def fin := finK cfg.c sig [.tmp 2, .tmp 3, .tmp 4]
noncomputable def F (d : SF × Unit) : Option ((Int × Int × Int × Unit) × (Unit)) := anyK (a8N cfg fin (bd f68) (a5B sig.ps d 61))
variable (k : Nat) (x5 : LL) (i6 : Int) (x7 : LI) (x8 : LM) (i9 : Int)
noncomputable def l2 : Option ((Int × Int × Int × Unit) × (Unit)) := Vm.runT cfg fin k [.inLoop (sub [1, 0, 1, 0, 0] (bd f68)), .inBlock 0, .code (sub [1, 1] (bd f68))] ⟨[.rptr false [cQ x5, cI i6, cL x7, ⟨(.sl TMatrix), .sh, x8⟩], dD, dD, dD, dD, vI i9] ++ a7W 55, []⟩
variable (x10 : LL) (i11 : Int) (x12 : LI) (x13 : LM) (i14 i15 i16 : Int)
noncomputable def l6 : Option ((Int × Int × Int × Unit) × (Unit)) := Vm.runT cfg fin k [.inLoop (sub [1, 0, 1, 0, 0, 1, 0, 0, 1, 1, 0, 0] (bd f68)), .inBlock 2, .inBlock 1, .code (sub [1, 0, 1, 0, 0, 1, 1] (bd f68)), .inLoop (sub [1, 0, 1, 0, 0] (bd f68)), .inBlock 0, .code (sub [1, 1] (bd f68))] ⟨[.rptr false [cQ x10, cI i11, cL x12, ⟨(.sl TMatrix), .sh, x13⟩], dD, dD, dD, dD, vI i14, vI i15, vI i16] ++ a7W 53, []⟩
variable (x17 : LL) (i18 : Int) (x19 : LI) (x20 : LM) (i21 i22 i23 i24 : Int)
noncomputable def l9 : Option ((Int × Int × Int × Unit) × (Unit)) := Vm.runT cfg fin k [.inLoop (sub [1, 0, 1, 0, 0, 1, 0, 0, 1, 1, 0, 0, 1, 0, 0, 1, 0, 0] (bd f68)), .inBlock 4, .inBlock 3, .code (sub [1, 0, 1, 0, 0, 1, 0, 0, 1, 1, 0, 0, 1, 1] (bd f68)), .inLoop (sub [1, 0, 1, 0, 0, 1, 0, 0, 1, 1, 0, 0] (bd f68)), .inBlock 2, .inBlock 1, .code (sub [1, 0, 1, 0, 0, 1, 1] (bd f68)), .inLoop (sub [1, 0, 1, 0, 0] (bd f68)), .inBlock 0, .code (sub [1, 1] (bd f68))] ⟨[.rptr false [cQ x17, cI i18, cL x19, ⟨(.sl TMatrix), .sh, x20⟩], dD, dD, dD, dD, vI i21, vI i22, vI i23, vI i24] ++ a7W 52, []⟩
theorem l2_eq : l2 (k + 1) x5 i6 x7 x8 i9 = if (decide (i9 < (x5.length : Int))) = true then if 0 ≤ i9 ∧ i9 < (x5.length : Int) then l6 k x5 i6 x7 x8 i9 ((x5.getD i9.toNat ([] : LI)).length : Int) (0 : Int) else none else some (((-1 : Int), ((0 : Int), ((0 : Int), ()))), ()) := by kernel_rfl
theorem l6_eq : l6 (k + 1) x10 i11 x12 x13 i14 i15 i16 = if (decide (i16 < i15)) = true then if (decide (i15 > 2)) = true then l9 k x10 i11 x12 x13 i14 i15 i16 (IntKind.i64.wrap (i16 + 1)) else l2 k x10 i11 x12 x13 (IntKind.i64.wrap (i14 + 1)) else l2 k x10 i11 x12 x13 (IntKind.i64.wrap (i14 + 1)) := by kernel_rfl
theorem l9_eq : l9 (k + 1) x17 i18 x19 x20 i21 i22 i23 i24 = if (decide (i24 < i22)) = true then (Ah6.F ((x17, (i18, (x19, x20))), i21, i23, i24, ())).bind fun r25 => (Ah6.F ((x17, (i18, (x19, x20))), i21, i24, i23, ())).bind fun r26 => (Ae4.F (r25.1.1, r26.1.1, ())).bind fun r27 => if (!r27.1.1) = true then some ((i21, (i23, (i24, ()))), ()) else l9 k x17 i18 x19 x20 i21 i22 i23 (IntKind.i64.wrap (i24 + 1)) else l6 k x17 i18 x19 x20 i21 i22 (IntKind.i64.wrap (i23 + 1)) := by kernel_rfl
variable (s_1 : LL) (s_2 : Int) (s_3 : LI) (s_4 : LM)
noncomputable def T : Option ((Int × Int × Int × Unit) × (Unit)) := l2 k s_1 s_2 s_3 s_4 (0 : Int)
theorem of {r} (h : Ev (fun k => T k s_1 s_2 s_3 s_4) r) : F ((s_1, (s_2, (s_3, s_4))), ()) = some r := Ev.run (fun k => by kernel_rfl) h
theorem S : a2Z prog ⟨68, sig, F⟩ := sound_k (res := [.tmp 2, .tmp 3, .tmp 4]) func68 (cok (cM ⟨Ah6.S, cM ⟨Ae4.S, nM⟩⟩))
end Ac2
namespace Af2
noncomputable def sig : Sig := ⟨[qS], [oB]⟩
noncomputable def cfg : Cfg := cf (cx [⟨67, Ab1.sig, Ab1.F⟩, ⟨68, Ac2.sig, Ac2.F⟩])
noncomputable def fin := finK cfg.c sig [.tmp 2]
noncomputable def F (d : SF × Unit) : OB := anyK (a8N cfg fin (bd f31) (a5B sig.ps d 17))
variable (s_1 : LL) (s_2 : Int) (s_3 : LI) (s_4 : LM)
noncomputable def T : OB := (Ab1.F ((s_1, (s_2, (s_3, s_4))), ())).bind fun r5 => if (!r5.1.1) = true then some ((false, ()), ()) else (Ac2.F ((s_1, (s_2, (s_3, s_4))), ())).bind fun r6 => some ((decide (r6.1.1 < 0), ()), ())
theorem eq : F ((s_1, (s_2, (s_3, s_4))), ()) = T s_1 s_2 s_3 s_4 := eq_any fun k => by kernel_rfl
theorem S : a2Z prog ⟨31, sig, F⟩ := sound_k (res := [.tmp 2]) func31 (cok (cM ⟨Ab1.S, cM ⟨Ac2.S, nM⟩⟩))
end Af2
namespace Ad5
noncomputable def sig : Sig := ⟨[qC, qC], [oC]⟩
noncomputable def cfg : Cfg := cl (cx [⟨71, Aa0.sig, Aa0.F⟩, ⟨121, Ad1.sig, Ad1.F⟩]) fun id => match id with | 3 => ([0, 1, 4, 5, 6], [16, 20]) | _ => ([], [])
noncomputable def fin := finK cfg.c sig [.cell 4 31]
noncomputable def F (d : LL × LL × Unit) : OQ := anyK (a8N cfg fin (bd f87) (a5B sig.ps d 40))
variable (k : Nat) (x3 x4 : LL) (i5 : Int) (x6 x7 : LL)
noncomputable def l3 : OQ := Vm.runT cfg fin k [.inLoop (sub [1, 1, 0, 1, 0, 0] (bd f87)), .inBlock 0, .code (sub [1, 1, 1] (bd f87))] ⟨[.rptr false [cQ x3], .rptr false [cQ x4], dD, dD, .ref 16 (.root 0), .view 20 (.root 0) 1 false, vI i5] ++ a7W 33, [(16, ⟨true, [dQ x6]⟩), (20, ⟨false, [dQ x7]⟩)]⟩
theorem l3_eq : l3 (k + 1) x3 x4 i5 x6 x7 = if (decide (i5 < (x3.length : Int))) = true then if 0 ≤ i5 ∧ i5 < (x3.length : Int) then (Aa0.F (x4, x3.getD i5.toNat ([] : LI), ())).bind fun r8 => if (decide (r8.1.1 ≥ 0)) = true then if 0 ≤ i5 ∧ i5 < (x3.length : Int) then (Ad1.F (x3.getD i5.toNat ([] : LI), ())).bind fun r9 => if x7.length + [r9.1.1].length ≤ bigA then l3 k x3 x4 (IntKind.i64.wrap (i5 + 1)) x6 (x7 ++ [r9.1.1]) else none else none else l3 k x3 x4 (IntKind.i64.wrap (i5 + 1)) x6 x7 else none else some ((x7, ()), ()) := by kernel_rfl
variable (a_1 b_2 : LL)
noncomputable def T : OQ := l3 k a_1 b_2 (0 : Int) ([] : LL) ([] : LL)
theorem of {r} (h : Ev (fun k => T k a_1 b_2) r) : F (a_1, b_2, ()) = some r := Ev.run (fun k => by kernel_rfl) h
theorem S : a2Z prog ⟨87, sig, F⟩ := sound_k (res := [.cell 4 31]) func87 (cok (cM ⟨Aa0.S, cM ⟨Ad1.S, nM⟩⟩))
end Ad5
namespace Ae3
noncomputable def sig : Sig := ⟨[qC, qC, qC], [oB]⟩
noncomputable def cfg : Cfg := cl (cx [⟨71, Aa0.sig, Aa0.F⟩, ⟨87, Ad5.sig, Ad5.F⟩]) fun id => match id with | 6 => ([0, 1, 2, 9], []) | _ => ([], [])
noncomputable def fin := finK cfg.c sig [.tmp 6]
noncomputable def F (d : LL × LL × LL × Unit) : OB := anyK (a8N cfg fin (bd f139) (a5B sig.ps d 67))
variable (k : Nat) (x6 x7 x8 : LL) (i9 : Int)
noncomputable def l6 : OB := Vm.runT cfg fin k [.inLoop (sub [1, 1, 1, 1, 0, 1, 0, 0] (bd f139)), .inBlock 0, .code (sub [1, 1, 1, 1, 1] (bd f139))] ⟨[.rptr false [cQ x6], .rptr false [cQ x7], .rptr false [cQ x8], dD, dD, dD, dD, dD, dD, vI i9] ++ a7W 57, []⟩
theorem l6_eq : l6 (k + 1) x6 x7 x8 i9 = if (decide (i9 < (x6.length : Int))) = true then if 0 ≤ i9 ∧ i9 < (x6.length : Int) then (Aa0.F (x7, x6.getD i9.toNat ([] : LI), ())).bind fun r10 => if (decide (r10.1.1 < 0)) = true then if 0 ≤ i9 ∧ i9 < (x6.length : Int) then (Aa0.F (x8, x6.getD i9.toNat ([] : LI), ())).bind fun r11 => if (decide (r11.1.1 < 0)) = true then some ((false, ()), ()) else l6 k x6 x7 x8 (IntKind.i64.wrap (i9 + 1)) else none else l6 k x6 x7 x8 (IntKind.i64.wrap (i9 + 1)) else none else some ((true, ()), ()) := by kernel_rfl
variable (toArray_1 a_2 a_3 : LL)
noncomputable def T : OB := (Ad5.F (a_2, toArray_1, ())).bind fun r4 => (Ad5.F (a_3, toArray_1, ())).bind fun r5 => if ((r4.1.1.length : Int) != (a_2.length : Int)) = true then some ((false, ()), ()) else if ((r5.1.1.length : Int) != (a_3.length : Int)) = true then some ((false, ()), ()) else l6 k toArray_1 a_2 a_3 (0 : Int)
theorem of {r} (h : Ev (fun k => T k toArray_1 a_2 a_3) r) : F (toArray_1, a_2, a_3, ()) = some r := Ev.run (fun k => by kernel_rfl) h
theorem S : a2Z prog ⟨139, sig, F⟩ := sound_k (res := [.tmp 6]) func139 (cok (cM ⟨Aa0.S, cM ⟨Ad5.S, nM⟩⟩))
end Ae3
namespace Al2
noncomputable def sig : Sig := ⟨[qS, qC, qC], [oI]⟩
noncomputable def cfg : Cfg := cf (cx [⟨31, Af2.sig, Af2.F⟩, ⟨32, Aa4.sig, Aa4.F⟩, ⟨139, Ae3.sig, Ae3.F⟩])
noncomputable def fin := finK cfg.c sig [.tmp 6]
noncomputable def F (d : SF × LL × LL × Unit) : OI := anyK (a8N cfg fin (bd f85) (a5B sig.ps d 27))
variable (s_1 : LL) (s_2 : Int) (s_3 : LI) (s_4 : LM) (a_5 b_6 : LL)
noncomputable def T : OI := (Af2.F ((s_1, (s_2, (s_3, s_4))), ())).bind fun r7 => if (!r7.1.1) = true then some ((1, ()), ()) else (Aa4.F (a_5, ())).bind fun r8 => if (!r8.1.1) = true then some ((1, ()), ()) else (Aa4.F (b_6, ())).bind fun r9 => if (!r9.1.1) = true then some ((1, ()), ()) else (Ae3.F (s_1, a_5, b_6, ())).bind fun r10 => if (!r10.1.1) = true then some ((6, ()), ()) else some ((0, ()), ())
theorem eq : F ((s_1, (s_2, (s_3, s_4))), a_5, b_6, ()) = T s_1 s_2 s_3 s_4 a_5 b_6 := eq_any fun k => by kernel_rfl
theorem S : a2Z prog ⟨85, sig, F⟩ := sound_k (res := [.tmp 6]) func85 (cok (cM ⟨Af2.S, cM ⟨Aa4.S, cM ⟨Ae3.S, nM⟩⟩⟩))
end Al2
namespace An2
noncomputable def sig : Sig := ⟨[qC, qC], [oB]⟩
noncomputable def cfg : Cfg := cl (cx [⟨71, Aa0.sig, Aa0.F⟩]) fun id => match id with | 2 => ([0, 1, 5], []) | _ => ([], [])
noncomputable def fin := finK cfg.c sig [.tmp 4]
noncomputable def F (d : LL × LL × Unit) : OB := anyK (a8N cfg fin (bd f33) (a5B sig.ps d 25))
variable (k : Nat) (x3 x4 : LL) (i5 : Int)
noncomputable def l2 : OB := Vm.runT cfg fin k [.inLoop (sub [1, 0, 1, 0, 0] (bd f33)), .inBlock 0, .code (sub [1, 1] (bd f33))] ⟨[.rptr false [cQ x3], .rptr false [cQ x4], dD, dD, dD, vI i5] ++ a7W 19, []⟩
theorem l2_eq : l2 (k + 1) x3 x4 i5 = if (decide (i5 < (x3.length : Int))) = true then if 0 ≤ i5 ∧ i5 < (x3.length : Int) then (Aa0.F (x4, x3.getD i5.toNat ([] : LI), ())).bind fun r6 => if (decide (r6.1.1 < 0)) = true then some ((false, ()), ()) else l2 k x3 x4 (IntKind.i64.wrap (i5 + 1)) else none else some ((true, ()), ()) := by kernel_rfl
variable (part_1 c_2 : LL)
noncomputable def T : OB := l2 k part_1 c_2 (0 : Int)
theorem of {r} (h : Ev (fun k => T k part_1 c_2) r) : F (part_1, c_2, ()) = some r := Ev.run (fun k => by kernel_rfl) h
theorem S : a2Z prog ⟨33, sig, F⟩ := sound_k (res := [.tmp 4]) func33 (cok (cM ⟨Aa0.S, nM⟩))
end An2
namespace Am5
noncomputable def sig : Sig := ⟨[pL, pI], [oL]⟩
noncomputable def cfg : Cfg := cl (cx []) fun id => match id with | 4 => ([0, 1, 5, 6, 7], [20]) | _ => ([], [])
noncomputable def fin := finK cfg.c sig [.tmp 4]
noncomputable def F (d : LI × Int × Unit) : OL := anyK (a8N cfg fin (bd f122) (a5B sig.ps d 49))
variable (k : Nat) (x3 : LI) (i4 : Int) (b5 : Bool) (i6 : Int) (x7 : LI)
noncomputable def l4 : OL := Vm.runT cfg fin k [.inLoop (sub [1, 1, 1, 0, 1, 0, 0] (bd f122)), .inBlock 0, .code (sub [1, 1, 1, 1] (bd f122))] ⟨[vL x3, vI i4, dD, dD, dD, .view 20 (.root 0) 1 false, .val false [⟨.bool, .sh, b5⟩], vI i6] ++ a7W 41, [(20, ⟨false, [dL x7]⟩)]⟩
theorem l4_eq : l4 (k + 1) x3 i4 b5 i6 x7 = if (decide (i6 < (x3.length : Int))) = true then if (!b5) = true then if 0 ≤ i6 ∧ i6 < (x3.length : Int) then if (decide ((x3.getD i6.toNat 0 : Int) ≥ i4)) = true then if 0 ≤ i6 ∧ i6 < (x3.length : Int) then if (decide ((x3.getD i6.toNat 0 : Int) > i4)) = true then if x7.length + [i4].length ≤ bigA then if 0 ≤ i6 ∧ i6 < (x3.length : Int) then if (x7 ++ [i4]).length + [(x3.getD i6.toNat 0 : Int)].length ≤ bigA then l4 k x3 i4 true (IntKind.i64.wrap (i6 + 1)) ((x7 ++ [i4]) ++ [(x3.getD i6.toNat 0 : Int)]) else none else none else none else if 0 ≤ i6 ∧ i6 < (x3.length : Int) then if x7.length + [(x3.getD i6.toNat 0 : Int)].length ≤ bigA then l4 k x3 i4 true (IntKind.i64.wrap (i6 + 1)) (x7 ++ [(x3.getD i6.toNat 0 : Int)]) else none else none else none else if 0 ≤ i6 ∧ i6 < (x3.length : Int) then if x7.length + [(x3.getD i6.toNat 0 : Int)].length ≤ bigA then l4 k x3 i4 b5 (IntKind.i64.wrap (i6 + 1)) (x7 ++ [(x3.getD i6.toNat 0 : Int)]) else none else none else none else if 0 ≤ i6 ∧ i6 < (x3.length : Int) then if x7.length + [(x3.getD i6.toNat 0 : Int)].length ≤ bigA then l4 k x3 i4 b5 (IntKind.i64.wrap (i6 + 1)) (x7 ++ [(x3.getD i6.toNat 0 : Int)]) else none else none else if (!b5) = true then if x7.length + [i4].length ≤ bigA then some ((x7 ++ [i4], ()), ()) else none else some ((x7, ()), ()) := by kernel_rfl
variable (list_1 : LI) (n_2 : Int)
noncomputable def T : OL := l4 k list_1 n_2 false (0 : Int) ([] : LI)
theorem of {r} (h : Ev (fun k => T k list_1 n_2) r) : F (list_1, n_2, ()) = some r := Ev.run (fun k => by kernel_rfl) h
theorem S : a2Z prog ⟨122, sig, F⟩ := sound_k (res := [.tmp 4]) func122 (cok nM)
end Am5
namespace An1
noncomputable def sig : Sig := ⟨[qC, pL, pL], [oL]⟩
noncomputable def cfg : Cfg := cl (cx [⟨71, Aa0.sig, Aa0.F⟩, ⟨122, Am5.sig, Am5.F⟩]) fun id => match id with | 3 => ([0, 1, 2, 7, 8], [28]) | _ => ([], [])
noncomputable def fin := finK cfg.c sig [.tmp 6]
noncomputable def F (d : LL × LI × LI × Unit) : OL := anyK (a8N cfg fin (bd f73) (a5B sig.ps d 29))
variable (k : Nat) (x4 : LL) (x5 x6 : LI) (i7 : Int) (x8 : LI)
noncomputable def l3 : OL := Vm.runT cfg fin k [.inLoop (sub [1, 1, 0, 1, 0, 0] (bd f73)), .inBlock 0, .code (sub [1, 1, 1] (bd f73))] ⟨[.rptr false [cQ x4], vL x5, vL x6, dD, dD, dD, dD, .view 28 (.root 0) 1 false, vI i7] ++ a7W 20, [(28, ⟨false, [dL x8]⟩)]⟩
theorem l3_eq : l3 (k + 1) x4 x5 x6 i7 x8 = if (decide (i7 < (x6.length : Int))) = true then if 0 ≤ i7 ∧ i7 ≤ (IntKind.i64.wrap (i7 + 1)) ∧ (IntKind.i64.wrap (i7 + 1)) ≤ (x6.length : Int) then (Aa0.F (x4, cutL x6 i7 (IntKind.i64.wrap (i7 + 1)), ())).bind fun r9 => if 0 ≤ r9.1.1 ∧ r9.1.1 < (x5.length : Int) then (Am5.F (x8, x5.getD r9.1.1.toNat 0, ())).bind fun r10 => l3 k x4 x5 x6 (IntKind.i64.wrap (i7 + 1)) r10.1.1 else none else none else some ((x8, ()), ()) := by kernel_rfl
variable (c_1 : LL) (images_2 s_3 : LI)
noncomputable def T : OL := l3 k c_1 images_2 s_3 (0 : Int) ([] : LI)
theorem of {r} (h : Ev (fun k => T k c_1 images_2 s_3) r) : F (c_1, images_2, s_3, ()) = some r := Ev.run (fun k => by kernel_rfl) h
theorem S : a2Z prog ⟨73, sig, F⟩ := sound_k (res := [.tmp 6]) func73 (cok (cM ⟨Aa0.S, cM ⟨Am5.S, nM⟩⟩))
end An1
namespace An0
noncomputable def sig : Sig := ⟨[qC, pI], [oC]⟩
noncomputable def cfg : Cfg := cl (cx [⟨121, Ad1.sig, Ad1.F⟩]) fun id => match id with | 3 => ([0, 1, 4, 5, 6], [16, 20]) | _ => ([], [])
noncomputable def fin := finK cfg.c sig [.cell 4 31]
noncomputable def F (d : LL × Int × Unit) : OQ := anyK (a8N cfg fin (bd f123) (a5B sig.ps d 43))
variable (k : Nat) (x3 : LL) (i4 i5 : Int) (x6 x7 : LL)
noncomputable def l3 : OQ := Vm.runT cfg fin k [.inLoop (sub [1, 1, 0, 1, 0, 0] (bd f123)), .inBlock 0, .code (sub [1, 1, 1] (bd f123))] ⟨[.rptr false [cQ x3], vI i4, dD, dD, .ref 16 (.root 0), .ref 20 (.root 0), vI i5] ++ a7W 36, [(16, ⟨true, [dQ x6]⟩), (20, ⟨true, [dQ x7]⟩)]⟩
theorem l3_eq : l3 (k + 1) x3 i4 i5 x6 x7 = if (decide (i5 < (x3.length : Int))) = true then if 0 ≤ i5 ∧ i5 < (x3.length : Int) then if (decide (((x3.getD i5.toNat ([] : LI)).length : Int) ≤ (IntKind.i64.wrap (i4 + 1)))) = true then if 0 ≤ i5 ∧ i5 < (x3.length : Int) then (Ad1.F (x3.getD i5.toNat ([] : LI), ())).bind fun r8 => if x7.length + [r8.1.1].length ≤ bigA then l3 k x3 i4 (IntKind.i64.wrap (i5 + 1)) x6 (x7 ++ [r8.1.1]) else none else none else l3 k x3 i4 (IntKind.i64.wrap (i5 + 1)) x6 x7 else none else some ((x7, ()), ()) := by kernel_rfl
variable (c_1 : LL) (dimension_2 : Int)
noncomputable def T : OQ := l3 k c_1 dimension_2 (0 : Int) ([] : LL) ([] : LL)
theorem of {r} (h : Ev (fun k => T k c_1 dimension_2) r) : F (c_1, dimension_2, ()) = some r := Ev.run (fun k => by kernel_rfl) h
theorem S : a2Z prog ⟨123, sig, F⟩ := sound_k (res := [.cell 4 31]) func123 (cok (cM ⟨Ad1.S, nM⟩))
end An0
namespace Af7
noncomputable def sig : Sig := ⟨[qC, pI, pL], [oS]⟩
noncomputable def cfg : Cfg := cl (cx [⟨75, Aa2.sig, Aa2.F⟩, ⟨121, Ad1.sig, Ad1.F⟩, ⟨123, An0.sig, An0.F⟩, ⟨124, Ae9.sig, Ae9.F⟩]) fun id => match id with | 3 => ([0, 1, 2, 6, 7, 8], [24, 28]) | 7 => ([0, 1, 2, 6, 7, 8, 9, 10], [24, 28, 36]) | _ => ([], [])
noncomputable def fin := finK cfg.c sig [.cell 6 34]
noncomputable def F (d : LL × Int × LI × Unit) : OS := anyK (a8N cfg fin (bd f74) (a5B sig.ps d 55))
variable (k : Nat) (x6 : LL) (i7 : Int) (x8 : LI) (i9 : Int) (x10 : LL) (i11 : Int) (x12 : LI) (x13 : LM) (x14 : LL) (i15 : Int) (x16 : LI) (x17 : LM)
noncomputable def l3 : OS := Vm.runT cfg fin k [.inLoop (sub [1, 1, 0, 1, 0, 0] (bd f74)), .inBlock 0, .code (sub [1, 1, 1] (bd f74))] ⟨[.rptr false [cQ x6], vI i7, vL x8, dD, dD, dD, .ref 24 (.root 0), .ref 28 (.root 0), vI i9] ++ a7W 46, [(24, ⟨true, [dQ x10, cI i11, dL x12, ⟨(.sl TMatrix), .deep, x13⟩]⟩), (28, ⟨true, [dQ x14, cI i15, dL x16, ⟨(.sl TMatrix), .deep, x17⟩]⟩)]⟩
variable (x19 : LL) (i20 : Int) (x21 : LI) (i22 i23 : Int) (x24 : LL) (i25 : Int) (x26 : LI) (x27 : LM) (x28 : LL) (i29 : Int) (x30 : LI) (x31 : LM) (x32 : LI)
noncomputable def l7 : OS := Vm.runT cfg fin k [.inLoop (sub [1, 1, 0, 1, 0, 0, 1, 0, 0, 1, 1, 0, 0] (bd f74)), .inBlock 2, .inBlock 1, .code (sub [1, 1, 0, 1, 0, 0, 1, 1] (bd f74)), .inLoop (sub [1, 1, 0, 1, 0, 0] (bd f74)), .inBlock 0, .code (sub [1, 1, 1] (bd f74))] ⟨[.rptr false [cQ x19], vI i20, vL x21, dD, dD, dD, .ref 24 (.root 0), .ref 28 (.root 0), vI i22, .view 36 (.root 0) 1 false, vI i23] ++ a7W 44, [(24, ⟨true, [dQ x24, cI i25, dL x26, ⟨(.sl TMatrix), .deep, x27⟩]⟩), (28, ⟨true, [dQ x28, cI i29, dL x30, ⟨(.sl TMatrix), .deep, x31⟩]⟩), (36, ⟨false, [dL x32]⟩)]⟩
theorem l3_eq : l3 (k + 1) x6 i7 x8 i9 x10 i11 x12 x13 x14 i15 x16 x17 = if (decide (i9 < (x6.length : Int))) = true then (Aa2.F (x6, i9, ())).bind fun r18 => l7 k x6 i7 x8 i9 (0 : Int) x10 i11 x12 x13 x14 i15 x16 x17 r18.1.1 else some (((x14, (i15, (x16, x17))), ()), ()) := by kernel_rfl
theorem l7_eq : l7 (k + 1) x19 i20 x21 i22 i23 x24 i25 x26 x27 x28 i29 x30 x31 x32 = if (decide (i23 < (x32.length : Int))) = true then if 0 ≤ i22 ∧ i22 < (x21.length : Int) then if 0 ≤ i23 ∧ i23 < (x32.length : Int) then if 0 ≤ (x32.getD i23.toNat 0 : Int) ∧ (x32.getD i23.toNat 0 : Int) < (x21.length : Int) then (Ae9.F (i20, (x21.getD i22.toNat 0 : Int), x21.getD (x32.getD i23.toNat 0 : Int).toNat 0, ())).bind fun r33 => if x31.length + [r33.1.1].length ≤ bigA then l7 k x19 i20 x21 i22 (IntKind.i64.wrap (i23 + 1)) x24 i25 x26 x27 x28 i29 x30 (x31 ++ [r33.1.1]) x32 else none else none else none else none else l3 k x19 i20 x21 (IntKind.i64.wrap (i22 + 1)) x24 i25 x26 x27 x28 i29 x30 x31 := by kernel_rfl
variable (c_1 : LL) (p_2 : Int) (stalks_3 : LI)
noncomputable def T : OS := (An0.F (c_1, (3 : Int), ())).bind fun r4 => (Ad1.F (stalks_3, ())).bind fun r5 => l3 k c_1 p_2 stalks_3 (0 : Int) ([]) 0 ([]) ([]) r4.1.1 p_2 r5.1.1 ([] : LM)
theorem of {r} (h : Ev (fun k => T k c_1 p_2 stalks_3) r) : F (c_1, p_2, stalks_3, ()) = some r := Ev.run (fun k => by kernel_rfl) h
theorem S : a2Z prog ⟨74, sig, F⟩ := sound_k (res := [.cell 6 34]) func74 (cok (cM ⟨Aa2.S, cM ⟨Ad1.S, cM ⟨An0.S, cM ⟨Ae9.S, nM⟩⟩⟩⟩))
end Af7
namespace Af6
noncomputable def sig : Sig := ⟨[pL, pI], [oB]⟩
noncomputable def cfg : Cfg := cl (cx []) fun id => match id with | 2 => ([0, 1, 5], []) | _ => ([], [])
noncomputable def fin := finK cfg.c sig [.tmp 4]
noncomputable def F (d : LI × Int × Unit) : OB := anyK (a8N cfg fin (bd f53) (a5B sig.ps d 18))
variable (k : Nat) (x3 : LI) (i4 i5 : Int)
noncomputable def l2 : OB := Vm.runT cfg fin k [.inLoop (sub [1, 0, 1, 0, 0] (bd f53)), .inBlock 0, .code (sub [1, 1] (bd f53))] ⟨[vL x3, vI i4, dD, dD, dD, vI i5] ++ a7W 12, []⟩
theorem l2_eq : l2 (k + 1) x3 i4 i5 = if (decide (i5 < (x3.length : Int))) = true then if 0 ≤ i5 ∧ i5 < (x3.length : Int) then if ((x3.getD i5.toNat 0 : Int) == i4) = true then some ((true, ()), ()) else l2 k x3 i4 (IntKind.i64.wrap (i5 + 1)) else none else some ((false, ()), ()) := by kernel_rfl
variable (list_1 : LI) (n_2 : Int)
noncomputable def T : OB := l2 k list_1 n_2 (0 : Int)
theorem of {r} (h : Ev (fun k => T k list_1 n_2) r) : F (list_1, n_2, ()) = some r := Ev.run (fun k => by kernel_rfl) h
theorem S : a2Z prog ⟨53, sig, F⟩ := sound_k (res := [.tmp 4]) func53 (cok nM)
end Af6
namespace Ak9
noncomputable def sig : Sig := ⟨[pI, pI], [oM]⟩
noncomputable def cfg : Cfg := cl (cx [⟨124, Ae9.sig, Ae9.F⟩]) fun id => match id with | 3 => ([1, 4, 5, 6], [16, 20]) | _ => ([], [])
noncomputable def fin := finK cfg.c sig [.cell 4 86]
noncomputable def F (d : Int × Int × Unit) : OM := anyK (a8N cfg fin (bd f125) (a5B sig.ps d 25))
variable (k : Nat) (i4 i5 i6 i7 i8 : Int) (x9 : LI) (i10 i11 i12 : Int) (x13 : LI)
noncomputable def l3 : OM := Vm.runT cfg fin k [.inLoop (sub [1, 1, 0, 1, 0, 0] (bd f125)), .inBlock 0, .code (sub [1, 1, 1] (bd f125))] ⟨[dD, vI i4, dD, dD, .ref 16 (.root 0), .ref 20 (.root 0), vI i5] ++ a7W 18, [(16, ⟨true, [cI i6, cI i7, cI i8, dL x9]⟩), (20, ⟨true, [cI i10, cI i11, cI i12, dL x13]⟩)]⟩
theorem l3_eq : l3 (k + 1) i4 i5 i6 i7 i8 x9 i10 i11 i12 x13 = if (decide (i5 < i4)) = true then if 0 ≤ (IntKind.i64.wrap ((IntKind.i64.wrap (i5 * i4)) + i5)) ∧ (IntKind.i64.wrap ((IntKind.i64.wrap (i5 * i4)) + i5)) < (x13.length : Int) then l3 k i4 (IntKind.i64.wrap (i5 + 1)) i6 i7 i8 x9 i10 i11 i12 (x13.set (IntKind.i64.wrap ((IntKind.i64.wrap (i5 * i4)) + i5)).toNat (1 : Int)) else none else some (((i10, (i11, (i12, x13))), ()), ()) := by kernel_rfl
variable (p_1 n_2 : Int)
noncomputable def T : OM := (Ae9.F (p_1, n_2, n_2, ())).bind fun r3 => l3 k n_2 (0 : Int) 0 0 0 ([]) r3.1.1.1 r3.1.1.2.1 r3.1.1.2.2.1 r3.1.1.2.2.2
theorem of {r} (h : Ev (fun k => T k p_1 n_2) r) : F (p_1, n_2, ()) = some r := Ev.run (fun k => by kernel_rfl) h
theorem S : a2Z prog ⟨125, sig, F⟩ := sound_k (res := [.cell 4 86]) func125 (cok (cM ⟨Ae9.S, nM⟩))
end Ak9
namespace Ae2
noncomputable def sig : Sig := ⟨[qS, pI, pI], [oM]⟩
noncomputable def ctx (self : (SF × Int × Int × Unit) → OM) : Ctx := ⟨a2H tabl, [⟨53, Af6.sig, Af6.F⟩, ⟨75, Aa2.sig, Aa2.F⟩, ⟨125, Ak9.sig, Ak9.F⟩, ⟨126, Ad2.sig, Ad2.F⟩, ⟨127, Aa6.sig, Aa6.F⟩, ⟨76, sig, self⟩], [], [], [], []⟩
noncomputable def cfg (self : (SF × Int × Int × Unit) → OM) : Cfg := ⟨(ctx self), [], [], fun id => match id with | 5 => ([0, 1, 2, 6, 7, 8], [24]) | _ => ([], []), fun _ => []⟩
noncomputable def code : Code := (f76).body.getD .skip
noncomputable def fin (self : (SF × Int × Int × Unit) → OM) := finK (ctx self) sig [.cell 6 86]
noncomputable def step (self : (SF × Int × Int × Unit) → OM) (d : SF × Int × Int × Unit) : OM := anyK (a8N (cfg self) (fin self) code (a5B sig.ps d 64))
variable (self : (SF × Int × Int × Unit) → OM) (k : Nat) (x8 : LL) (i9 : Int) (x10 : LI) (x11 : LM) (i12 i13 : Int) (x14 : LI) (i15 i16 i17 i18 : Int) (x19 : LI)
noncomputable def l5 : OM := Vm.runT (cfg self) (fin self) k [.inLoop (sub [1, 1, 1, 1, 0, 0, 0] code), .inBlock 0, .code (sub [1, 1, 1, 1, 1] code)] ⟨[.rptr false [cQ x8, cI i9, cL x10, ⟨(.sl TMatrix), .sh, x11⟩], vI i12, vI i13, dD, dD, dD, .ref 24 (.root 0), vL x14, vI i15] ++ a7W 55, [(24, ⟨true, [cI i16, cI i17, cI i18, dL x19]⟩)]⟩
theorem l5_eq : l5 self (k + 1) x8 i9 x10 x11 i12 i13 x14 i15 i16 i17 i18 x19 = if 0 ≤ i12 ∧ i12 < (x8.length : Int) then if 0 ≤ i15 ∧ i15 < (x14.length : Int) then (Af6.F (x8.getD i12.toNat ([] : LI), (x14.getD i15.toNat 0 : Int), ())).bind fun r20 => if r20.1.1 = true then l5 self k x8 i9 x10 x11 i12 i13 x14 (IntKind.i64.wrap (i15 + 1)) i16 i17 i18 x19 else (Aa2.F (x8, i13, ())).bind fun r21 => if 0 ≤ i15 ∧ i15 < (r21.1.1.length : Int) then (self ((x8, (i9, (x10, x11))), i12, (r21.1.1.getD i15.toNat 0 : Int), ())).bind fun r22 => (Aa6.F ((x8, (i9, (x10, x11))), i13, i15, ())).bind fun r23 => (Ad2.F (r23.1.1, r22.1.1, ())).bind fun r24 => some ((r24.1.1, ()), ()) else none else none else none := by kernel_rfl
variable (s_1 : LL) (s_2 : Int) (s_3 : LI) (s_4 : LM) (face_5 simplex_6 : Int)
noncomputable def T : OM := if (face_5 == simplex_6) = true then if 0 ≤ face_5 ∧ face_5 < (s_3.length : Int) then (Ak9.F (s_2, (s_3.getD face_5.toNat 0 : Int), ())).bind fun r7 => some ((r7.1.1, ()), ()) else none else if 0 ≤ simplex_6 ∧ simplex_6 < (s_1.length : Int) then l5 self k s_1 s_2 s_3 s_4 face_5 simplex_6 (s_1.getD simplex_6.toNat ([] : LI)) (0 : Int) 0 0 0 ([]) else none
theorem run (self : (SF × Int × Int × Unit) → OM) (k : Nat) (s_1 : LL) (s_2 : Int) (s_3 : LI) (s_4 : LM) (face_5 simplex_6 : Int) : a8N (cfg self) (fin self) code (a5B sig.ps ((s_1, (s_2, (s_3, s_4))), face_5, simplex_6, ()) 64) k = T self k s_1 s_2 s_3 s_4 face_5 simplex_6 := by kernel_rfl
theorem of {r} (h : Ev (fun k => T self k s_1 s_2 s_3 s_4 face_5 simplex_6) r) : step self ((s_1, (s_2, (s_3, s_4))), face_5, simplex_6, ()) = some r := Ev.run (fun k => run self k s_1 s_2 s_3 s_4 face_5 simplex_6) h
theorem ok (self : (SF × Int × Int × Unit) → OM) (hs : a2Z prog ⟨76, sig, self⟩) : CtxOK prog (ctx self) := ⟨nilM, mixed_ok, tab_ok tab_good, consM ⟨Af6.S, consM ⟨Aa2.S, consM ⟨Ak9.S, consM ⟨Ad2.S, consM ⟨Aa6.S, consM ⟨hs, nilM⟩⟩⟩⟩⟩⟩, nilM, nilM⟩
theorem stepS (self : (SF × Int × Int × Unit) → OM) (hs : a2Z prog ⟨76, sig, self⟩) : a2Z prog ⟨76, sig, step self⟩ := b1f (fn := f76) (code := code) (g := cfg self) (res := [.cell 6 86]) func76 (by kernel_rfl) (by kernel_rfl) (ok self hs) (by kernel_rfl) (by kernel_rfl) (Nat.le_of_ble_eq_true (by kernel_rfl)) (by kernel_rfl)
noncomputable def R : Nat → (SF × Int × Int × Unit) → OM := recF step
noncomputable def F (d : SF × Int × Int × Unit) : OM := anyE fun q => R q d
theorem ofR {d : SF × Int × Int × Unit} {r : (MX × Unit) × (Unit)} (h : Ev (fun q => R q d) r) : F d = some r := anyE_of h
theorem S : a2Z prog ⟨76, sig, F⟩ := sound_rec ⟨_, func76, by kernel_rfl, by kernel_rfl⟩ fun self h => stepS self h
end Ae2
namespace Af4
noncomputable def sig : Sig := ⟨[qS, qC, pL], [oS]⟩
noncomputable def cfg : Cfg := cl (cx [⟨71, Aa0.sig, Aa0.F⟩, ⟨73, An1.sig, An1.F⟩, ⟨74, Af7.sig, Af7.F⟩, ⟨75, Aa2.sig, Aa2.F⟩, ⟨76, Ae2.sig, Ae2.F⟩, ⟨77, Ac1.sig, Ac1.F⟩]) fun id => match id with | 4 => ([0, 1, 2, 6, 7, 8, 9], [24, 28, 32]) | 11 => ([0, 1, 6, 7, 11, 12], [24, 28, 44]) | 15 => ([0, 1, 6, 7, 11, 12, 13, 14], [24, 28, 44, 52]) | _ => ([], [])
noncomputable def fin := finK cfg.c sig [.cell 6 34]
noncomputable def F (d : SF × LL × LI × Unit) : OS := anyK (a8N cfg fin (bd f34) (a5B sig.ps d 100))
variable (k : Nat) (x7 : LL) (i8 : Int) (x9 : LI) (x10 : LM) (x11 : LL) (x12 : LI) (i13 : Int) (x14 : LL) (i15 : Int) (x16 : LI) (x17 : LM) (x18 x19 : LI)
noncomputable def l4 : OS := Vm.runT cfg fin k [.inLoop (sub [1, 1, 1, 0, 1, 0, 0] (bd f34)), .inBlock 0, .code (sub [1, 1, 1, 1] (bd f34))] ⟨[.rptr false [cQ x7, cI i8, cL x9, ⟨(.sl TMatrix), .sh, x10⟩], .rptr false [cQ x11], vL x12, dD, dD, dD, .ref 24 (.root 0), .view 28 (.root 0) 1 false, .view 32 (.root 0) 1 false, vI i13] ++ a7W 90, [(24, ⟨true, [dQ x14, cI i15, dL x16, ⟨(.sl TMatrix), .deep, x17⟩]⟩), (28, ⟨false, [dL x18]⟩), (32, ⟨false, [dL x19]⟩)]⟩
variable (x23 : LL) (i24 : Int) (x25 : LI) (x26 : LM) (x27 : LL) (i28 : Int) (x29 : LL) (i30 : Int) (x31 : LI) (x32 : LM) (x33 : LI) (x34 : LL) (i35 : Int) (x36 : LI) (x37 : LM)
noncomputable def l11 : OS := Vm.runT cfg fin k [.inLoop (sub [1, 1, 1, 1, 1, 0, 1, 0, 0] (bd f34)), .inBlock 2, .code (sub [1, 1, 1, 1, 1, 1] (bd f34))] ⟨[.rptr false [cQ x23, cI i24, cL x25, ⟨(.sl TMatrix), .sh, x26⟩], .rptr false [cQ x27], dD, dD, dD, dD, .ref 24 (.root 0), .view 28 (.root 0) 1 false, dD, dD, dD, .ref 44 (.root 0), vI i28] ++ a7W 87, [(24, ⟨true, [dQ x29, cI i30, dL x31, ⟨(.sl TMatrix), .deep, x32⟩]⟩), (28, ⟨false, [dL x33]⟩), (44, ⟨true, [dQ x34, cI i35, dL x36, ⟨(.sl TMatrix), .deep, x37⟩]⟩)]⟩
variable (x39 : LL) (i40 : Int) (x41 : LI) (x42 : LM) (x43 : LL) (i44 i45 : Int) (x46 : LL) (i47 : Int) (x48 : LI) (x49 : LM) (x50 : LI) (x51 : LL) (i52 : Int) (x53 : LI) (x54 : LM) (x55 : LI)
noncomputable def l15 : OS := Vm.runT cfg fin k [.inLoop (sub [1, 1, 1, 1, 1, 0, 1, 0, 0, 1, 0, 0, 1, 1, 0, 0] (bd f34)), .inBlock 4, .inBlock 3, .code (sub [1, 1, 1, 1, 1, 0, 1, 0, 0, 1, 1] (bd f34)), .inLoop (sub [1, 1, 1, 1, 1, 0, 1, 0, 0] (bd f34)), .inBlock 2, .code (sub [1, 1, 1, 1, 1, 1] (bd f34))] ⟨[.rptr false [cQ x39, cI i40, cL x41, ⟨(.sl TMatrix), .sh, x42⟩], .rptr false [cQ x43], dD, dD, dD, dD, .ref 24 (.root 0), .view 28 (.root 0) 1 false, dD, dD, dD, .ref 44 (.root 0), vI i44, .view 52 (.root 0) 1 false, vI i45] ++ a7W 85, [(24, ⟨true, [dQ x46, cI i47, dL x48, ⟨(.sl TMatrix), .deep, x49⟩]⟩), (28, ⟨false, [dL x50]⟩), (44, ⟨true, [dQ x51, cI i52, dL x53, ⟨(.sl TMatrix), .deep, x54⟩]⟩), (52, ⟨false, [dL x55]⟩)]⟩
theorem l4_eq : l4 (k + 1) x7 i8 x9 x10 x11 x12 i13 x14 i15 x16 x17 x18 x19 = if (decide (i13 < (x11.length : Int))) = true then if 0 ≤ i13 ∧ i13 < (x11.length : Int) then (An1.F (x11, x12, x11.getD i13.toNat ([] : LI), ())).bind fun r20 => (Aa0.F (x7, r20.1.1, ())).bind fun r21 => if x18.length + [r21.1.1].length ≤ bigA then if 0 ≤ r21.1.1 ∧ r21.1.1 < (x9.length : Int) then if x19.length + [x9.getD r21.1.1.toNat 0].length ≤ bigA then l4 k x7 i8 x9 x10 x11 x12 (IntKind.i64.wrap (i13 + 1)) x14 i15 x16 x17 (x18 ++ [r21.1.1]) (x19 ++ [x9.getD r21.1.1.toNat 0]) else none else none else none else none else (Af7.F (x11, i8, x19, ())).bind fun r22 => l11 k x7 i8 x9 x10 x11 (0 : Int) x14 i15 x16 x17 x18 r22.1.1.1 r22.1.1.2.1 r22.1.1.2.2.1 r22.1.1.2.2.2 := by kernel_rfl
theorem l11_eq : l11 (k + 1) x23 i24 x25 x26 x27 i28 x29 i30 x31 x32 x33 x34 i35 x36 x37 = if (decide (i28 < (x27.length : Int))) = true then (Aa2.F (x27, i28, ())).bind fun r38 => l15 k x23 i24 x25 x26 x27 i28 (0 : Int) x29 i30 x31 x32 x33 x34 i35 x36 x37 r38.1.1 else some (((x34, (i35, (x36, x37))), ()), ()) := by kernel_rfl
theorem l15_eq : l15 (k + 1) x39 i40 x41 x42 x43 i44 i45 x46 i47 x48 x49 x50 x51 i52 x53 x54 x55 = if (decide (i45 < (x55.length : Int))) = true then (Ac1.F (x43, i44, i45, ())).bind fun r56 => if 0 ≤ i45 ∧ i45 < (x55.length : Int) then if 0 ≤ (x55.getD i45.toNat 0 : Int) ∧ (x55.getD i45.toNat 0 : Int) < (x50.length : Int) then if 0 ≤ i44 ∧ i44 < (x50.length : Int) then (Ae2.F ((x39, (i40, (x41, x42))), x50.getD (x55.getD i45.toNat 0 : Int).toNat 0, (x50.getD i44.toNat 0 : Int), ())).bind fun r57 => if 0 ≤ r56.1.1 ∧ r56.1.1 < (x54.length : Int) then l15 k x39 i40 x41 x42 x43 i44 (IntKind.i64.wrap (i45 + 1)) x46 i47 x48 x49 x50 x51 i52 x53 (x54.set r56.1.1.toNat r57.1.1) x55 else none else none else none else none else l11 k x39 i40 x41 x42 x43 (IntKind.i64.wrap (i44 + 1)) x46 i47 x48 x49 x50 x51 i52 x53 x54 := by kernel_rfl
variable (toArray_1 : LL) (toArray_2 : Int) (toArray_3 : LI) (toArray_4 : LM) (a_5 : LL) (a_6 : LI)
noncomputable def T : OS := l4 k toArray_1 toArray_2 toArray_3 toArray_4 a_5 a_6 (0 : Int) ([]) 0 ([]) ([]) ([] : LI) ([] : LI)
theorem of {r} (h : Ev (fun k => T k toArray_1 toArray_2 toArray_3 toArray_4 a_5 a_6) r) : F ((toArray_1, (toArray_2, (toArray_3, toArray_4))), a_5, a_6, ()) = some r := Ev.run (fun k => by kernel_rfl) h
theorem S : a2Z prog ⟨34, sig, F⟩ := sound_k (res := [.cell 6 34]) func34 (cok (cM ⟨Aa0.S, cM ⟨An1.S, cM ⟨Af7.S, cM ⟨Aa2.S, cM ⟨Ae2.S, cM ⟨Ac1.S, nM⟩⟩⟩⟩⟩⟩))
end Af4
namespace Al1
noncomputable def sig : Sig := ⟨[qC], [oL]⟩
noncomputable def cfg : Cfg := cl (cx [⟨52, Aa9.sig, Aa9.F⟩]) fun id => match id with | 4 => ([0, 3, 4, 5], [12, 16]) | _ => ([], [])
noncomputable def fin := finK cfg.c sig [.tmp 2]
noncomputable def F (d : LL × Unit) : OL := anyK (a8N cfg fin (bd f35) (a5B sig.ps d 31))
variable (k : Nat) (x3 : LL) (i4 : Int) (x5 x6 : LI)
noncomputable def l4 : OL := Vm.runT cfg fin k [.inLoop (sub [1, 1, 1, 0, 1, 0, 0] (bd f35)), .inBlock 0, .code (sub [1, 1, 1, 1] (bd f35))] ⟨[.rptr false [cQ x3], dD, dD, .view 12 (.root 0) 1 false, .view 16 (.root 0) 1 false, vI i4] ++ a7W 25, [(12, ⟨false, [dL x5]⟩), (16, ⟨false, [dL x6]⟩)]⟩
theorem l4_eq : l4 (k + 1) x3 i4 x5 x6 = if (decide (i4 < (x6.length : Int))) = true then if 0 ≤ i4 ∧ i4 < (x6.length : Int) then if 0 ≤ (x6.getD i4.toNat 0 : Int) ∧ (x6.getD i4.toNat 0 : Int) < (x3.length : Int) then if 0 ≤ (0 : Int) ∧ (0 : Int) < ((x3.getD (x6.getD i4.toNat 0 : Int).toNat ([] : LI)).length : Int) then if x5.length + [(x3.getD (x6.getD i4.toNat 0 : Int).toNat ([] : LI)).getD (0 : Int).toNat 0].length ≤ bigA then l4 k x3 (IntKind.i64.wrap (i4 + 1)) (x5 ++ [(x3.getD (x6.getD i4.toNat 0 : Int).toNat ([] : LI)).getD (0 : Int).toNat 0]) x6 else none else none else none else none else some ((x5, ()), ()) := by kernel_rfl
variable (c_1 : LL)
noncomputable def T : OL := (Aa9.F (c_1, (0 : Int), ())).bind fun r2 => l4 k c_1 (0 : Int) ([] : LI) r2.1.1
theorem of {r} (h : Ev (fun k => T k c_1) r) : F (c_1, ()) = some r := Ev.run (fun k => by kernel_rfl) h
theorem S : a2Z prog ⟨35, sig, F⟩ := sound_k (res := [.tmp 2]) func35 (cok (cM ⟨Aa9.S, nM⟩))
end Al1
namespace Ak8
noncomputable def sig : Sig := ⟨[pS, pC], [oS, oI]⟩
noncomputable def cfg : Cfg := cf (cx [⟨31, Af2.sig, Af2.F⟩, ⟨32, Aa4.sig, Aa4.F⟩, ⟨33, An2.sig, An2.F⟩, ⟨34, Af4.sig, Af4.F⟩, ⟨35, Al1.sig, Al1.F⟩])
noncomputable def fin := finK cfg.c sig [.cell 4 34, .tmp 5]
noncomputable def F (d : SF × LL × Unit) : Option ((SF × Int × Unit) × (Unit)) := anyK (a8N cfg fin (bd f9) (a5B sig.ps d 19))
variable (s_1 : LL) (s_2 : Int) (s_3 : LI) (s_4 : LM) (part_5 : LL)
noncomputable def T : Option ((SF × Int × Unit) × (Unit)) := (Af2.F ((s_1, (s_2, (s_3, s_4))), ())).bind fun r6 => if (!r6.1.1) = true then some ((([], (0, ([], []))), ((1 : Int), ())), ()) else (Aa4.F (part_5, ())).bind fun r7 => if (!r7.1.1) = true then some ((([], (0, ([], []))), ((1 : Int), ())), ()) else (An2.F (part_5, s_1, ())).bind fun r8 => if (!r8.1.1) = true then some ((([], (0, ([], []))), ((6 : Int), ())), ()) else (Al1.F (part_5, ())).bind fun r9 => (Af4.F ((s_1, (s_2, (s_3, s_4))), part_5, r9.1.1, ())).bind fun r10 => some ((r10.1.1, ((0 : Int), ())), ())
theorem eq : F ((s_1, (s_2, (s_3, s_4))), part_5, ()) = T s_1 s_2 s_3 s_4 part_5 := eq_any fun k => by kernel_rfl
theorem S : a2Z prog ⟨9, sig, F⟩ := sound_k (res := [.cell 4 34, .tmp 5]) func9 (cok (cM ⟨Af2.S, cM ⟨Aa4.S, cM ⟨An2.S, cM ⟨Af4.S, cM ⟨Al1.S, nM⟩⟩⟩⟩⟩))
end Ak8
namespace Al3
noncomputable def sig : Sig := ⟨[qS, qC], [oS]⟩
noncomputable def cfg : Cfg := cf (cx [⟨9, Ak8.sig, Ak8.F⟩])
noncomputable def fin := finK cfg.c sig [.cell 4 34]
noncomputable def F (d : SF × LL × Unit) : OS := anyK (a8N cfg fin (bd f140) (a5B sig.ps d 18))
variable (s_1 : LL) (s_2 : Int) (s_3 : LI) (s_4 : LM) (part_5 : LL)
noncomputable def T : OS := (Ak8.F ((s_1, (s_2, (s_3, s_4))), part_5, ())).bind fun r6 => some ((r6.1.1, ()), ())
theorem eq : F ((s_1, (s_2, (s_3, s_4))), part_5, ()) = T s_1 s_2 s_3 s_4 part_5 := eq_any fun k => by kernel_rfl
theorem S : a2Z prog ⟨140, sig, F⟩ := sound_k (res := [.cell 4 34]) func140 (cok (cM ⟨Ak8.S, nM⟩))
end Al3
namespace Am8
noncomputable def sig : Sig := ⟨[pL, pI], [oB]⟩
noncomputable def cfg : Cfg := cl (cx [⟨118, Aa5.sig, Aa5.F⟩]) fun id => match id with | 2 => ([0, 1, 5], []) | _ => ([], [])
noncomputable def fin := finK cfg.c sig [.tmp 4]
noncomputable def F (d : LI × Int × Unit) : OB := anyK (a8N cfg fin (bd f199) (a5B sig.ps d 23))
variable (k : Nat) (x3 : LI) (i4 i5 : Int)
noncomputable def l2 : OB := Vm.runT cfg fin k [.inLoop (sub [1, 0, 1, 0, 0] (bd f199)), .inBlock 0, .code (sub [1, 1] (bd f199))] ⟨[vL x3, vI i4, dD, dD, dD, vI i5] ++ a7W 17, []⟩
theorem l2_eq : l2 (k + 1) x3 i4 i5 = if (decide (i5 < (x3.length : Int))) = true then if 0 ≤ i5 ∧ i5 < (x3.length : Int) then (Aa5.F ((x3.getD i5.toNat 0 : Int), (0 : Int), IntKind.i64.wrap (i4 - 1), ())).bind fun r6 => if (!r6.1.1) = true then some ((false, ()), ()) else l2 k x3 i4 (IntKind.i64.wrap (i5 + 1)) else none else some ((decide ((x3.length : Int) ≤ 64), ()), ()) := by kernel_rfl
variable (v_1 : LI) (p_2 : Int)
noncomputable def T : OB := l2 k v_1 p_2 (0 : Int)
theorem of {r} (h : Ev (fun k => T k v_1 p_2) r) : F (v_1, p_2, ()) = some r := Ev.run (fun k => by kernel_rfl) h
theorem S : a2Z prog ⟨199, sig, F⟩ := sound_k (res := [.tmp 4]) func199 (cok (cM ⟨Aa5.S, nM⟩))
end Am8
namespace Aq4
noncomputable def sig : Sig := ⟨[pI, pI, pL], [oB]⟩
noncomputable def cfg : Cfg := cf (cx [⟨199, Am8.sig, Am8.F⟩])
noncomputable def fin := finK cfg.c sig [.tmp 6]
noncomputable def F (d : Int × Int × LI × Unit) : OB := anyK (a8N cfg fin (bd f176) (a5B sig.ps d 16))
variable (p_1 length_2 : Int) (x_3 : LI)
noncomputable def T : OB := (Am8.F (x_3, p_1, ())).bind fun r4 => if r4.1.1 = true then some (((x_3.length : Int) == length_2, ()), ()) else some ((false, ()), ())
theorem eq : F (p_1, length_2, x_3, ()) = T p_1 length_2 x_3 := eq_any fun k => by kernel_rfl
theorem S : a2Z prog ⟨176, sig, F⟩ := sound_k (res := [.tmp 6]) func176 (cok (cM ⟨Am8.S, nM⟩))
end Aq4
namespace Ai9
noncomputable def sig : Sig := ⟨[qS], [oI]⟩
noncomputable def cfg : Cfg := cf (cx [⟨148, Ad8.sig, Ad8.F⟩])
noncomputable def fin := finK cfg.c sig [.tmp 2]
noncomputable def F (d : SF × Unit) : OI := anyK (a8N cfg fin (bd f177) (a5B sig.ps d 11))
noncomputable def T (s_1 : LL) (s_2 : Int) (s_3 : LI) (s_4 : LM) : OI := (Ad8.F (s_1, s_3, (0 : Int), ())).bind fun r5 => some ((r5.1.1, ()), ())
theorem eq (s_1 : LL) (s_2 : Int) (s_3 : LI) (s_4 : LM) : F ((s_1, (s_2, (s_3, s_4))), ()) = T s_1 s_2 s_3 s_4 := eq_any fun k => by kernel_rfl
theorem S : a2Z prog ⟨177, sig, F⟩ := sound_k (res := [.tmp 2]) func177 (cok (cM ⟨Ad8.S, nM⟩))
end Ai9
namespace Af3
noncomputable def sig : Sig := ⟨[qM, pI, pI, pI], [oQ]⟩
noncomputable def cfg : Cfg := cl (cx []) fun id => match id with | 3 => ([0, 1, 2, 3, 9, 10], [36]) | 7 => ([0, 1, 2, 3, 9, 10, 11, 12], [36, 44]) | _ => ([], [])
noncomputable def fin := finK cfg.c sig [.tmp 8]
noncomputable def F (d : MX × Int × Int × Int × Unit) : OQ := anyK (a8N cfg fin (bd f200) (a5B sig.ps d 63))
variable (k : Nat) (i8 i9 i10 : Int) (x11 : LI) (i12 i13 i14 i15 : Int) (x16 : LL)
noncomputable def l3 : OQ := Vm.runT cfg fin k [.inLoop (sub [1, 1, 0, 1, 0, 0] (bd f200)), .inBlock 0, .code (sub [1, 1, 1] (bd f200))] ⟨[.rptr false [cI i8, cI i9, cI i10, cL x11], vI i12, vI i13, vI i14, dD, dD, dD, dD, dD, .view 36 (.root 0) 1 false, vI i15] ++ a7W 52, [(36, ⟨false, [dQ x16]⟩)]⟩
variable (i17 i18 i19 : Int) (x20 : LI) (i21 i22 i23 i24 i25 : Int) (x26 : LL) (x27 : LI)
noncomputable def l7 : OQ := Vm.runT cfg fin k [.inLoop (sub [1, 1, 0, 1, 0, 0, 1, 0, 0, 1, 0, 1, 0, 0] (bd f200)), .inBlock 2, .code (sub [1, 1, 0, 1, 0, 0, 1, 0, 0, 1, 1] (bd f200)), .inBlock 1, .code (sub [1, 1, 0, 1, 0, 0, 1, 1] (bd f200)), .inLoop (sub [1, 1, 0, 1, 0, 0] (bd f200)), .inBlock 0, .code (sub [1, 1, 1] (bd f200))] ⟨[.rptr false [cI i17, cI i18, cI i19, cL x20], vI i21, vI i22, vI i23, dD, dD, dD, dD, dD, .view 36 (.root 0) 1 false, vI i24, .view 44 (.root 0) 1 false, vI i25] ++ a7W 50, [(36, ⟨false, [dQ x26]⟩), (44, ⟨false, [dL x27]⟩)]⟩
theorem l3_eq : l3 (k + 1) i8 i9 i10 x11 i12 i13 i14 i15 x16 = if (decide (i15 < i9)) = true then if 0 ≤ i13 ∧ i13 ≤ (bigN : Int) then l7 k i8 i9 i10 x11 i12 i13 i14 i15 (0 : Int) x16 (List.replicate i13.toNat 0) else none else some ((x16, ()), ()) := by kernel_rfl
theorem l7_eq : l7 (k + 1) i17 i18 i19 x20 i21 i22 i23 i24 i25 x26 x27 = if (decide (i25 < i19)) = true then if 0 ≤ (IntKind.i64.wrap ((IntKind.i64.wrap (i24 * i19)) + i25)) ∧ (IntKind.i64.wrap ((IntKind.i64.wrap (i24 * i19)) + i25)) < (x20.length : Int) then if i17 = 0 then none else if 0 ≤ (IntKind.i64.wrap (i21 + i25)) ∧ (IntKind.i64.wrap (i21 + i25)) < (x27.length : Int) then let y28 : LI := x27.set (IntKind.i64.wrap (i21 + i25)).toNat ((IntKind.i64.wrap ((x20.getD (IntKind.i64.wrap ((IntKind.i64.wrap (i24 * i19)) + i25)).toNat 0 : Int) * i23)).tmod i17); l7 k i17 i18 i19 x20 i21 i22 i23 i24 (IntKind.i64.wrap (i25 + 1)) x26 y28 else none else none else if x26.length + [x27].length ≤ bigA then l3 k i17 i18 i19 x20 i21 i22 i23 (IntKind.i64.wrap (i24 + 1)) (x26 ++ [x27]) else none := by kernel_rfl
variable (m_1 m_2 m_3 : Int) (m_4 : LI) (at_5 columns_6 times_7 : Int)
noncomputable def T : OQ := l3 k m_1 m_2 m_3 m_4 at_5 columns_6 times_7 (0 : Int) ([] : LL)
theorem of {r} (h : Ev (fun k => T k m_1 m_2 m_3 m_4 at_5 columns_6 times_7) r) : F ((m_1, (m_2, (m_3, m_4))), at_5, columns_6, times_7, ()) = some r := Ev.run (fun k => by kernel_rfl) h
theorem S : a2Z prog ⟨200, sig, F⟩ := sound_k (res := [.tmp 8]) func200 (cok nM)
end Af3
namespace Af8
noncomputable def sig : Sig := ⟨[qS, pI], [oI]⟩
noncomputable def cfg : Cfg := cl (cx []) fun id => match id with | 3 => ([0, 1, 5, 6], []) | _ => ([], [])
noncomputable def fin := finK cfg.c sig [.tmp 4]
noncomputable def F (d : SF × Int × Unit) : OI := anyK (a8N cfg fin (bd f201) (a5B sig.ps d 22))
variable (k : Nat) (x6 : LL) (i7 : Int) (x8 : LI) (x9 : LM) (i10 i11 i12 : Int)
noncomputable def l3 : OI := Vm.runT cfg fin k [.inLoop (sub [1, 1, 0, 1, 0, 0] (bd f201)), .inBlock 0, .code (sub [1, 1, 1] (bd f201))] ⟨[.rptr false [cQ x6, cI i7, cL x8, ⟨(.sl TMatrix), .sh, x9⟩], vI i10, dD, dD, dD, vI i11, vI i12] ++ a7W 15, []⟩
theorem l3_eq : l3 (k + 1) x6 i7 x8 x9 i10 i11 i12 = if (decide (i12 < i10)) = true then if 0 ≤ i12 ∧ i12 < (x8.length : Int) then l3 k x6 i7 x8 x9 i10 (IntKind.i64.wrap (i11 + (x8.getD i12.toNat 0 : Int))) (IntKind.i64.wrap (i12 + 1)) else none else some ((i11, ()), ()) := by kernel_rfl
variable (s_1 : LL) (s_2 : Int) (s_3 : LI) (s_4 : LM) (vertex_5 : Int)
noncomputable def T : OI := l3 k s_1 s_2 s_3 s_4 vertex_5 (0 : Int) (0 : Int)
theorem of {r} (h : Ev (fun k => T k s_1 s_2 s_3 s_4 vertex_5) r) : F ((s_1, (s_2, (s_3, s_4))), vertex_5, ()) = some r := Ev.run (fun k => by kernel_rfl) h
theorem S : a2Z prog ⟨201, sig, F⟩ := sound_k (res := [.tmp 4]) func201 (cok nM)
end Af8
namespace Ah1
noncomputable def sig : Sig := ⟨[pL, pL, pI, pI], [oL]⟩
noncomputable def cfg : Cfg := cl (cx []) fun id => match id with | 3 => ([0, 1, 2, 3, 9, 10], [36]) | _ => ([], [])
noncomputable def fin := finK cfg.c sig [.tmp 8]
noncomputable def F (d : LI × LI × Int × Int × Unit) : OL := anyK (a8N cfg fin (bd f88) (a5B sig.ps d 35))
variable (k : Nat) (x5 x6 : LI) (i7 i8 i9 : Int) (x10 : LI)
noncomputable def l3 : OL := Vm.runT cfg fin k [.inLoop (sub [1, 1, 0, 1, 0, 0] (bd f88)), .inBlock 0, .code (sub [1, 1, 1] (bd f88))] ⟨[vL x5, vL x6, vI i7, vI i8, dD, dD, dD, dD, dD, .view 36 (.root 0) 1 false, vI i9] ++ a7W 24, [(36, ⟨false, [dL x10]⟩)]⟩
theorem l3_eq : l3 (k + 1) x5 x6 i7 i8 i9 x10 = if (decide (i9 < (x5.length : Int))) = true then if 0 ≤ i9 ∧ i9 < (x5.length : Int) then if 0 ≤ i9 ∧ i9 < (x6.length : Int) then if i8 = 0 then none else if x10.length + [(IntKind.i64.wrap ((x5.getD i9.toNat 0 : Int) + (IntKind.i64.wrap (i7 * (x6.getD i9.toNat 0 : Int))))).tmod i8].length ≤ bigA then l3 k x5 x6 i7 i8 (IntKind.i64.wrap (i9 + 1)) (x10 ++ [(IntKind.i64.wrap ((x5.getD i9.toNat 0 : Int) + (IntKind.i64.wrap (i7 * (x6.getD i9.toNat 0 : Int))))).tmod i8]) else none else none else none else some ((x10, ()), ()) := by kernel_rfl
variable (a_1 b_2 : LI) (c_3 p_4 : Int)
noncomputable def T : OL := l3 k a_1 b_2 c_3 p_4 (0 : Int) ([] : LI)
theorem of {r} (h : Ev (fun k => T k a_1 b_2 c_3 p_4) r) : F (a_1, b_2, c_3, p_4, ()) = some r := Ev.run (fun k => by kernel_rfl) h
theorem S : a2Z prog ⟨88, sig, F⟩ := sound_k (res := [.tmp 8]) func88 (cok nM)
end Ah1
namespace Al0
noncomputable def sig : Sig := ⟨[pQ, pQ, pI], [oQ]⟩
noncomputable def cfg : Cfg := cl (cx [⟨88, Ah1.sig, Ah1.F⟩]) fun id => match id with | 3 => ([0, 1, 2, 7, 8], [28]) | _ => ([], [])
noncomputable def fin := finK cfg.c sig [.tmp 6]
noncomputable def F (d : LL × LL × Int × Unit) : OQ := anyK (a8N cfg fin (bd f202) (a5B sig.ps d 30))
variable (k : Nat) (x4 x5 : LL) (i6 i7 : Int) (x8 : LL)
noncomputable def l3 : OQ := Vm.runT cfg fin k [.inLoop (sub [1, 1, 0, 1, 0, 0] (bd f202)), .inBlock 0, .code (sub [1, 1, 1] (bd f202))] ⟨[vQ x4, vQ x5, vI i6, dD, dD, dD, dD, .view 28 (.root 0) 1 false, vI i7] ++ a7W 21, [(28, ⟨false, [dQ x8]⟩)]⟩
theorem l3_eq : l3 (k + 1) x4 x5 i6 i7 x8 = if (decide (i7 < (x4.length : Int))) = true then if 0 ≤ i7 ∧ i7 < (x4.length : Int) then if 0 ≤ i7 ∧ i7 < (x5.length : Int) then (Ah1.F (x4.getD i7.toNat ([] : LI), x5.getD i7.toNat ([] : LI), (1 : Int), i6, ())).bind fun r9 => if x8.length + [r9.1.1].length ≤ bigA then l3 k x4 x5 i6 (IntKind.i64.wrap (i7 + 1)) (x8 ++ [r9.1.1]) else none else none else none else some ((x8, ()), ()) := by kernel_rfl
variable (a_1 b_2 : LL) (p_3 : Int)
noncomputable def T : OQ := l3 k a_1 b_2 p_3 (0 : Int) ([] : LL)
theorem of {r} (h : Ev (fun k => T k a_1 b_2 p_3) r) : F (a_1, b_2, p_3, ()) = some r := Ev.run (fun k => by kernel_rfl) h
theorem S : a2Z prog ⟨202, sig, F⟩ := sound_k (res := [.tmp 6]) func202 (cok (cM ⟨Ah1.S, nM⟩))
end Al0
namespace Ah7
noncomputable def sig : Sig := ⟨[qS], [oQ]⟩
noncomputable def cfg : Cfg := cl (cx [⟨52, Aa9.sig, Aa9.F⟩, ⟨75, Aa2.sig, Aa2.F⟩, ⟨127, Aa6.sig, Aa6.F⟩, ⟨177, Ai9.sig, Ai9.F⟩, ⟨200, Af3.sig, Af3.F⟩, ⟨201, Af8.sig, Af8.F⟩, ⟨202, Al0.sig, Al0.F⟩]) fun id => match id with | 5 => ([0, 3, 4, 5, 6], [12, 20]) | _ => ([], [])
noncomputable def fin := finK cfg.c sig [.tmp 2]
noncomputable def F (d : SF × Unit) : OQ := anyK (a8N cfg fin (bd f178) (a5B sig.ps d 72))
variable (k : Nat) (x7 : LL) (i8 : Int) (x9 : LI) (x10 : LM) (i11 i12 : Int) (x13 : LL) (x14 : LI)
noncomputable def l5 : OQ := Vm.runT cfg fin k [.inLoop (sub [1, 1, 1, 1, 0, 1, 0, 0] (bd f178)), .inBlock 0, .code (sub [1, 1, 1, 1, 1] (bd f178))] ⟨[.rptr false [cQ x7, cI i8, cL x9, ⟨(.sl TMatrix), .sh, x10⟩], dD, dD, .view 12 (.root 0) 1 false, vI i11, .view 20 (.root 0) 1 false, vI i12] ++ a7W 65, [(12, ⟨false, [dQ x13]⟩), (20, ⟨false, [dL x14]⟩)]⟩
theorem l5_eq : l5 (k + 1) x7 i8 x9 x10 i11 i12 x13 x14 = if (decide (i12 < (x14.length : Int))) = true then if 0 ≤ i12 ∧ i12 < (x14.length : Int) then (Aa2.F (x7, (x14.getD i12.toNat 0 : Int), ())).bind fun r15 => if 0 ≤ i12 ∧ i12 < (x14.length : Int) then (Aa6.F ((x7, (i8, (x9, x10))), (x14.getD i12.toNat 0 : Int), (0 : Int), ())).bind fun r16 => if 0 ≤ (0 : Int) ∧ (0 : Int) < (r15.1.1.length : Int) then (Af8.F ((x7, (i8, (x9, x10))), r15.1.1.getD (0 : Int).toNat 0, ())).bind fun r17 => (Af3.F (r16.1.1, r17.1.1, i11, (1 : Int), ())).bind fun r18 => if 0 ≤ i12 ∧ i12 < (x14.length : Int) then (Aa6.F ((x7, (i8, (x9, x10))), (x14.getD i12.toNat 0 : Int), (1 : Int), ())).bind fun r19 => if 0 ≤ (1 : Int) ∧ (1 : Int) < (r15.1.1.length : Int) then (Af8.F ((x7, (i8, (x9, x10))), r15.1.1.getD (1 : Int).toNat 0, ())).bind fun r20 => (Af3.F (r19.1.1, r20.1.1, i11, IntKind.i64.wrap (i8 - 1), ())).bind fun r21 => (Al0.F (r18.1.1, r21.1.1, i8, ())).bind fun r22 => if x13.length + r22.1.1.length ≤ bigA then l5 k x7 i8 x9 x10 i11 (IntKind.i64.wrap (i12 + 1)) (x13 ++ r22.1.1) x14 else none else none else none else none else none else none else some ((x13, ()), ()) := by kernel_rfl
variable (toArray_1 : LL) (toArray_2 : Int) (toArray_3 : LI) (toArray_4 : LM)
noncomputable def T : OQ := (Ai9.F ((toArray_1, (toArray_2, (toArray_3, toArray_4))), ())).bind fun r5 => (Aa9.F (toArray_1, (1 : Int), ())).bind fun r6 => l5 k toArray_1 toArray_2 toArray_3 toArray_4 r5.1.1 (0 : Int) ([] : LL) r6.1.1
theorem of {r} (h : Ev (fun k => T k toArray_1 toArray_2 toArray_3 toArray_4) r) : F ((toArray_1, (toArray_2, (toArray_3, toArray_4))), ()) = some r := Ev.run (fun k => by kernel_rfl) h
theorem S : a2Z prog ⟨178, sig, F⟩ := sound_k (res := [.tmp 2]) func178 (cok (cM ⟨Aa9.S, cM ⟨Aa2.S, cM ⟨Aa6.S, cM ⟨Ai9.S, cM ⟨Af3.S, cM ⟨Af8.S, cM ⟨Al0.S, nM⟩⟩⟩⟩⟩⟩⟩))
end Ah7
namespace Am7
noncomputable def sig : Sig := ⟨[pL, pL, pI], [oI]⟩
noncomputable def cfg : Cfg := cl (cx []) fun id => match id with | 3 => ([0, 1, 2, 7, 8], []) | _ => ([], [])
noncomputable def fin := finK cfg.c sig [.tmp 6]
noncomputable def F (d : LI × LI × Int × Unit) : OI := anyK (a8N cfg fin (bd f179) (a5B sig.ps d 29))
variable (k : Nat) (x4 x5 : LI) (i6 i7 i8 : Int)
noncomputable def l3 : OI := Vm.runT cfg fin k [.inLoop (sub [1, 1, 0, 1, 0, 0] (bd f179)), .inBlock 0, .code (sub [1, 1, 1] (bd f179))] ⟨[vL x4, vL x5, vI i6, dD, dD, dD, dD, vI i7, vI i8] ++ a7W 20, []⟩
theorem l3_eq : l3 (k + 1) x4 x5 i6 i7 i8 = if (decide (i8 < (x4.length : Int))) = true then if 0 ≤ i8 ∧ i8 < (x4.length : Int) then if 0 ≤ i8 ∧ i8 < (x5.length : Int) then if i6 = 0 then none else l3 k x4 x5 i6 ((IntKind.i64.wrap (i7 + (IntKind.i64.wrap ((x4.getD i8.toNat 0 : Int) * (x5.getD i8.toNat 0 : Int))))).tmod i6) (IntKind.i64.wrap (i8 + 1)) else none else none else some ((i7, ()), ()) := by kernel_rfl
variable (a_1 b_2 : LI) (p_3 : Int)
noncomputable def T : OI := l3 k a_1 b_2 p_3 (0 : Int) (0 : Int)
theorem of {r} (h : Ev (fun k => T k a_1 b_2 p_3) r) : F (a_1, b_2, p_3, ()) = some r := Ev.run (fun k => by kernel_rfl) h
theorem S : a2Z prog ⟨179, sig, F⟩ := sound_k (res := [.tmp 6]) func179 (cok nM)
end Am7
namespace Ah3
noncomputable def sig : Sig := ⟨[qS, pL], [oB]⟩
noncomputable def cfg : Cfg := cl (cx [⟨176, Aq4.sig, Aq4.F⟩, ⟨177, Ai9.sig, Ai9.F⟩, ⟨178, Ah7.sig, Ah7.F⟩, ⟨179, Am7.sig, Am7.F⟩]) fun id => match id with | 5 => ([0, 1, 5, 6], [20]) | _ => ([], [])
noncomputable def fin := finK cfg.c sig [.tmp 4]
noncomputable def F (d : SF × LI × Unit) : OB := anyK (a8N cfg fin (bd f141) (a5B sig.ps d 35))
variable (k : Nat) (x9 : LL) (i10 : Int) (x11 : LI) (x12 : LM) (x13 : LI) (i14 : Int) (x15 : LL)
noncomputable def l5 : OB := Vm.runT cfg fin k [.inLoop (sub [1, 1, 1, 0, 1, 0, 0] (bd f141)), .inBlock 0, .code (sub [1, 1, 1, 1] (bd f141))] ⟨[.rptr false [cQ x9, cI i10, cL x11, ⟨(.sl TMatrix), .sh, x12⟩], vL x13, dD, dD, dD, .view 20 (.root 0) 1 false, vI i14] ++ a7W 28, [(20, ⟨false, [dQ x15]⟩)]⟩
theorem l5_eq : l5 (k + 1) x9 i10 x11 x12 x13 i14 x15 = if (decide (i14 < (x15.length : Int))) = true then if 0 ≤ i14 ∧ i14 < (x15.length : Int) then (Am7.F (x15.getD i14.toNat ([] : LI), x13, i10, ())).bind fun r16 => if (r16.1.1 != 0) = true then some ((false, ()), ()) else l5 k x9 i10 x11 x12 x13 (IntKind.i64.wrap (i14 + 1)) x15 else none else some ((true, ()), ()) := by kernel_rfl
variable (s_1 : LL) (s_2 : Int) (s_3 : LI) (s_4 : LM) (x_5 : LI)
noncomputable def T : OB := (Ai9.F ((s_1, (s_2, (s_3, s_4))), ())).bind fun r6 => (Aq4.F (s_2, r6.1.1, x_5, ())).bind fun r7 => if (!r7.1.1) = true then some ((false, ()), ()) else (Ah7.F ((s_1, (s_2, (s_3, s_4))), ())).bind fun r8 => l5 k s_1 s_2 s_3 s_4 x_5 (0 : Int) r8.1.1
theorem of {r} (h : Ev (fun k => T k s_1 s_2 s_3 s_4 x_5) r) : F ((s_1, (s_2, (s_3, s_4))), x_5, ()) = some r := Ev.run (fun k => by kernel_rfl) h
theorem S : a2Z prog ⟨141, sig, F⟩ := sound_k (res := [.tmp 4]) func141 (cok (cM ⟨Aq4.S, cM ⟨Ai9.S, cM ⟨Ah7.S, cM ⟨Am7.S, nM⟩⟩⟩⟩))
end Ah3
namespace Ah8
noncomputable def sig : Sig := ⟨[qS, qC, pL], [oB]⟩
noncomputable def cfg : Cfg := cf (cx [⟨140, Al3.sig, Al3.F⟩, ⟨141, Ah3.sig, Ah3.F⟩])
noncomputable def fin := finK cfg.c sig [.tmp 6]
noncomputable def F (d : SF × LL × LI × Unit) : OB := anyK (a8N cfg fin (bd f86) (a5B sig.ps d 13))
variable (s_1 : LL) (s_2 : Int) (s_3 : LI) (s_4 : LM) (part_5 : LL) (x_6 : LI)
noncomputable def T : OB := (Al3.F ((s_1, (s_2, (s_3, s_4))), part_5, ())).bind fun r7 => (Ah3.F (r7.1.1, x_6, ())).bind fun r8 => some ((r8.1.1, ()), ())
theorem eq : F ((s_1, (s_2, (s_3, s_4))), part_5, x_6, ()) = T s_1 s_2 s_3 s_4 part_5 x_6 := eq_any fun k => by kernel_rfl
theorem S : a2Z prog ⟨86, sig, F⟩ := sound_k (res := [.tmp 6]) func86 (cok (cM ⟨Al3.S, cM ⟨Ah3.S, nM⟩⟩))
end Ah8
namespace Al4
noncomputable def sig : Sig := ⟨[qS, qC, qC, pL, pL], [oI]⟩
noncomputable def cfg : Cfg := cf (cx [⟨85, Al2.sig, Al2.F⟩, ⟨86, Ah8.sig, Ah8.F⟩])
noncomputable def fin := finK cfg.c sig [.tmp 10]
noncomputable def F (d : SF × LL × LL × LI × LI × Unit) : OI := anyK (a8N cfg fin (bd f46) (a5B sig.ps d 33))
variable (s_1 : LL) (s_2 : Int) (s_3 : LI) (s_4 : LM) (a_5 b_6 : LL) (x_7 y_8 : LI)
noncomputable def T : OI := (Al2.F ((s_1, (s_2, (s_3, s_4))), a_5, b_6, ())).bind fun r9 => if (r9.1.1 == 0) = true then (Ah8.F ((s_1, (s_2, (s_3, s_4))), a_5, x_7, ())).bind fun r10 => if (!r10.1.1) = true then some ((7, ()), ()) else (Ah8.F ((s_1, (s_2, (s_3, s_4))), b_6, y_8, ())).bind fun r11 => if (!r11.1.1) = true then some ((7, ()), ()) else some ((r9.1.1, ()), ()) else some ((r9.1.1, ()), ())
theorem eq : F ((s_1, (s_2, (s_3, s_4))), a_5, b_6, x_7, y_8, ()) = T s_1 s_2 s_3 s_4 a_5 b_6 x_7 y_8 := eq_any fun k => by kernel_rfl
theorem S : a2Z prog ⟨46, sig, F⟩ := sound_k (res := [.tmp 10]) func46 (cok (cM ⟨Al2.S, cM ⟨Ah8.S, nM⟩⟩))
end Al4
namespace Ac3
noncomputable def sig : Sig := ⟨[qS, qC], [oL]⟩
noncomputable def cfg : Cfg := cl (cx [⟨52, Aa9.sig, Aa9.F⟩, ⟨71, Aa0.sig, Aa0.F⟩]) fun id => match id with | 4 => ([0, 1, 5, 6, 7], [20, 24]) | _ => ([], [])
noncomputable def fin := finK cfg.c sig [.tmp 4]
noncomputable def F (d : SF × LL × Unit) : OL := anyK (a8N cfg fin (bd f51) (a5B sig.ps d 35))
variable (k : Nat) (x7 : LL) (i8 : Int) (x9 : LI) (x10 : LM) (x11 : LL) (i12 : Int) (x13 x14 : LI)
noncomputable def l4 : OL := Vm.runT cfg fin k [.inLoop (sub [1, 1, 1, 0, 1, 0, 0] (bd f51)), .inBlock 0, .code (sub [1, 1, 1, 1] (bd f51))] ⟨[.rptr false [cQ x7, cI i8, cL x9, ⟨(.sl TMatrix), .sh, x10⟩], .rptr false [cQ x11], dD, dD, dD, .view 20 (.root 0) 1 false, .view 24 (.root 0) 1 false, vI i12] ++ a7W 27, [(20, ⟨false, [dL x13]⟩), (24, ⟨false, [dL x14]⟩)]⟩
theorem l4_eq : l4 (k + 1) x7 i8 x9 x10 x11 i12 x13 x14 = if (decide (i12 < (x14.length : Int))) = true then if 0 ≤ i12 ∧ i12 < (x14.length : Int) then if 0 ≤ (x14.getD i12.toNat 0 : Int) ∧ (x14.getD i12.toNat 0 : Int) < (x11.length : Int) then (Aa0.F (x7, x11.getD (x14.getD i12.toNat 0 : Int).toNat ([] : LI), ())).bind fun r15 => if x13.length + [r15.1.1].length ≤ bigA then l4 k x7 i8 x9 x10 x11 (IntKind.i64.wrap (i12 + 1)) (x13 ++ [r15.1.1]) x14 else none else none else none else some ((x13, ()), ()) := by kernel_rfl
variable (s_1 : LL) (s_2 : Int) (s_3 : LI) (s_4 : LM) (part_5 : LL)
noncomputable def T : OL := (Aa9.F (part_5, (0 : Int), ())).bind fun r6 => l4 k s_1 s_2 s_3 s_4 part_5 (0 : Int) ([] : LI) r6.1.1
theorem of {r} (h : Ev (fun k => T k s_1 s_2 s_3 s_4 part_5) r) : F ((s_1, (s_2, (s_3, s_4))), part_5, ()) = some r := Ev.run (fun k => by kernel_rfl) h
theorem S : a2Z prog ⟨51, sig, F⟩ := sound_k (res := [.tmp 4]) func51 (cok (cM ⟨Aa9.S, cM ⟨Aa0.S, nM⟩⟩))
end Ac3
namespace Ad3
noncomputable def sig : Sig := ⟨[qS, qC, pL, pI], [(.val false, tL, .sh)]⟩
noncomputable def cfg : Cfg := cl (cx [⟨51, Ac3.sig, Ac3.F⟩]) fun id => match id with | 4 => ([0, 2, 3, 9, 10, 11], [36]) | _ => ([], [])
noncomputable def fin := finK cfg.c sig [.tmp 8]
noncomputable def F (d : SF × LL × LI × Int × Unit) : OL := anyK (a8N cfg fin (bd f54) (a5B sig.ps d 59))
variable (k : Nat) (x9 : LL) (i10 : Int) (x11 : LI) (x12 : LM) (x13 : LI) (i14 i15 i16 : Int) (x17 : LI)
noncomputable def l4 : OL := Vm.runT cfg fin k [.inLoop (sub [1, 1, 1, 0, 1, 0, 0] (bd f54)), .inBlock 0, .code (sub [1, 1, 1, 1] (bd f54))] ⟨[.rptr false [cQ x9, cI i10, cL x11, ⟨(.sl TMatrix), .sh, x12⟩], dD, vL x13, vI i14, dD, dD, dD, dD, dD, .view 36 (.root 0) 1 false, vI i15, vI i16] ++ a7W 47, [(36, ⟨false, [dL x17]⟩)]⟩
theorem l4_eq : l4 (k + 1) x9 i10 x11 x12 x13 i14 i15 i16 x17 = if (decide (i16 < (x17.length : Int))) = true then if 0 ≤ i16 ∧ i16 < (x17.length : Int) then if ((x17.getD i16.toNat 0 : Int) == i14) = true then if 0 ≤ i14 ∧ i14 < (x11.length : Int) then if 0 ≤ i15 ∧ i15 ≤ (IntKind.i64.wrap (i15 + (x11.getD i14.toNat 0 : Int))) ∧ (IntKind.i64.wrap (i15 + (x11.getD i14.toNat 0 : Int))) ≤ (x13.length : Int) then some ((cutL x13 i15 (IntKind.i64.wrap (i15 + (x11.getD i14.toNat 0 : Int))), ()), ()) else none else none else if 0 ≤ i16 ∧ i16 < (x17.length : Int) then if 0 ≤ (x17.getD i16.toNat 0 : Int) ∧ (x17.getD i16.toNat 0 : Int) < (x11.length : Int) then l4 k x9 i10 x11 x12 x13 i14 (IntKind.i64.wrap (i15 + (x11.getD (x17.getD i16.toNat 0 : Int).toNat 0))) (IntKind.i64.wrap (i16 + 1)) x17 else none else none else none else if 0 ≤ i14 ∧ i14 < (x11.length : Int) then if 0 ≤ (x11.getD i14.toNat 0 : Int) ∧ (x11.getD i14.toNat 0 : Int) ≤ (bigN : Int) then some ((List.replicate (x11.getD i14.toNat 0 : Int).toNat 0, ()), ()) else none else none := by kernel_rfl
variable (s_1 : LL) (s_2 : Int) (s_3 : LI) (s_4 : LM) (part_5 : LL) (x_6 : LI) (vertex_7 : Int)
noncomputable def T : OL := (Ac3.F ((s_1, (s_2, (s_3, s_4))), part_5, ())).bind fun r8 => l4 k s_1 s_2 s_3 s_4 x_6 vertex_7 (0 : Int) (0 : Int) r8.1.1
theorem of {r} (h : Ev (fun k => T k s_1 s_2 s_3 s_4 part_5 x_6 vertex_7) r) : F ((s_1, (s_2, (s_3, s_4))), part_5, x_6, vertex_7, ()) = some r := Ev.run (fun k => by kernel_rfl) h
theorem S : a2Z prog ⟨54, sig, F⟩ := sound_k (res := [.tmp 8]) func54 (cok (cM ⟨Ac3.S, nM⟩))
end Ad3
namespace Aj7
noncomputable def sig : Sig := ⟨[qS, qC, qC, pL, pL], [oL]⟩
noncomputable def cfg : Cfg := cl (cx [⟨51, Ac3.sig, Ac3.F⟩, ⟨54, Ad3.sig, Ad3.F⟩, ⟨87, Ad5.sig, Ad5.F⟩, ⟨88, Ah1.sig, Ah1.F⟩]) fun id => match id with | 5 => ([0, 1, 2, 3, 4, 12, 13, 14], [48, 52]) | _ => ([], [])
noncomputable def fin := finK cfg.c sig [.tmp 10]
noncomputable def F (d : SF × LL × LL × LI × LI × Unit) : OL := anyK (a8N cfg fin (bd f47) (a5B sig.ps d 56))
variable (k : Nat) (x11 : LL) (i12 : Int) (x13 : LI) (x14 : LM) (x15 x16 : LL) (x17 x18 : LI) (i19 : Int) (x20 x21 : LI)
noncomputable def l5 : OL := Vm.runT cfg fin k [.inLoop (sub [1, 1, 1, 1, 0, 1, 0, 0] (bd f47)), .inBlock 0, .code (sub [1, 1, 1, 1, 1] (bd f47))] ⟨[.rptr false [cQ x11, cI i12, cL x13, ⟨(.sl TMatrix), .sh, x14⟩], .rptr false [cQ x15], .rptr false [cQ x16], vL x17, vL x18, dD, dD, dD, dD, dD, dD, dD, .view 48 (.root 0) 1 false, .view 52 (.root 0) 1 false, vI i19] ++ a7W 41, [(48, ⟨false, [dL x20]⟩), (52, ⟨false, [dL x21]⟩)]⟩
theorem l5_eq : l5 (k + 1) x11 i12 x13 x14 x15 x16 x17 x18 i19 x20 x21 = if (decide (i19 < (x20.length : Int))) = true then if 0 ≤ i19 ∧ i19 < (x20.length : Int) then (Ad3.F ((x11, (i12, (x13, x14))), x15, x17, (x20.getD i19.toNat 0 : Int), ())).bind fun r22 => if 0 ≤ i19 ∧ i19 < (x20.length : Int) then (Ad3.F ((x11, (i12, (x13, x14))), x16, x18, (x20.getD i19.toNat 0 : Int), ())).bind fun r23 => (Ah1.F (r22.1.1, r23.1.1, IntKind.i64.wrap (i12 - 1), i12, ())).bind fun r24 => if x21.length + r24.1.1.length ≤ bigA then l5 k x11 i12 x13 x14 x15 x16 x17 x18 (IntKind.i64.wrap (i19 + 1)) x20 (x21 ++ r24.1.1) else none else none else none else some ((x21, ()), ()) := by kernel_rfl
variable (s_1 : LL) (s_2 : Int) (s_3 : LI) (s_4 : LM) (a_5 b_6 : LL) (x_7 y_8 : LI)
noncomputable def T : OL := (Ad5.F (a_5, b_6, ())).bind fun r9 => (Ac3.F ((s_1, (s_2, (s_3, s_4))), r9.1.1, ())).bind fun r10 => l5 k s_1 s_2 s_3 s_4 a_5 b_6 x_7 y_8 (0 : Int) r10.1.1 ([] : LI)
theorem of {r} (h : Ev (fun k => T k s_1 s_2 s_3 s_4 a_5 b_6 x_7 y_8) r) : F ((s_1, (s_2, (s_3, s_4))), a_5, b_6, x_7, y_8, ()) = some r := Ev.run (fun k => by kernel_rfl) h
theorem S : a2Z prog ⟨47, sig, F⟩ := sound_k (res := [.tmp 10]) func47 (cok (cM ⟨Ac3.S, cM ⟨Ad3.S, cM ⟨Ad5.S, cM ⟨Ah1.S, nM⟩⟩⟩⟩))
end Aj7
namespace Am9
noncomputable def sig : Sig := ⟨[pL], [oB]⟩
noncomputable def cfg : Cfg := cl (cx []) fun id => match id with | 2 => ([0, 3], []) | _ => ([], [])
noncomputable def fin := finK cfg.c sig [.tmp 2]
noncomputable def F (d : LI × Unit) : OB := anyK (a8N cfg fin (bd f50) (a5B sig.ps d 15))
variable (k : Nat) (x2 : LI) (i3 : Int)
noncomputable def l2 : OB := Vm.runT cfg fin k [.inLoop (sub [1, 0, 1, 0, 0] (bd f50)), .inBlock 0, .code (sub [1, 1] (bd f50))] ⟨[vL x2, dD, dD, vI i3] ++ a7W 11, []⟩
theorem l2_eq : l2 (k + 1) x2 i3 = if (decide (i3 < (x2.length : Int))) = true then if 0 ≤ i3 ∧ i3 < (x2.length : Int) then if ((x2.getD i3.toNat 0 : Int) != 0) = true then some ((false, ()), ()) else l2 k x2 (IntKind.i64.wrap (i3 + 1)) else none else some ((true, ()), ()) := by kernel_rfl
variable (v_1 : LI)
noncomputable def T : OB := l2 k v_1 (0 : Int)
theorem of {r} (h : Ev (fun k => T k v_1) r) : F (v_1, ()) = some r := Ev.run (fun k => by kernel_rfl) h
theorem S : a2Z prog ⟨50, sig, F⟩ := sound_k (res := [.tmp 2]) func50 (cok nM)
end Am9
namespace Ah0
noncomputable def sig : Sig := ⟨[pS, pC, pC, pL, pL], [oL, oI]⟩
noncomputable def cfg : Cfg := cl (cx [⟨46, Al4.sig, Al4.F⟩, ⟨47, Aj7.sig, Aj7.F⟩, ⟨50, Am9.sig, Am9.F⟩, ⟨51, Ac3.sig, Ac3.F⟩, ⟨52, Aa9.sig, Aa9.F⟩, ⟨53, Af6.sig, Af6.F⟩, ⟨54, Ad3.sig, Ad3.F⟩]) fun id => match id with | 9 => ([3, 4, 5, 6, 7, 13, 14, 15], [20, 24, 28, 52, 56]) | _ => ([], [])
noncomputable def fin := finK cfg.c sig [.tmp 10, .tmp 11]
noncomputable def F (d : SF × LL × LL × LI × LI × Unit) : Option ((LI × Int × Unit) × (Unit)) := anyK (a8N cfg fin (bd f24) (a5B sig.ps d 54))
variable (k : Nat) (x13 x14 : LI) (i15 : Int) (x16 : LL) (i17 : Int) (x18 : LI) (x19 : LM) (x20 x21 : LL) (x22 x23 : LI)
noncomputable def l9 : Option ((LI × Int × Unit) × (Unit)) := Vm.runT cfg fin k [.inLoop (sub [1, 1, 1, 1, 1, 1, 0, 1, 0, 0] (bd f24)), .inBlock 0, .code (sub [1, 1, 1, 1, 1, 1, 1] (bd f24))] ⟨[dD, dD, dD, vL x13, vL x14, .ref 20 (.root 0), .ref 24 (.root 0), .ref 28 (.root 0), dD, dD, dD, dD, dD, .view 52 (.root 0) 1 false, .view 56 (.root 0) 1 false, vI i15] ++ a7W 38, [(20, ⟨true, [cQ x16, cI i17, cL x18, ⟨(.sl TMatrix), .sh, x19⟩]⟩), (24, ⟨true, [cQ x20]⟩), (28, ⟨true, [cQ x21]⟩), (52, ⟨false, [dL x22]⟩), (56, ⟨false, [dL x23]⟩)]⟩
theorem l9_eq : l9 (k + 1) x13 x14 i15 x16 i17 x18 x19 x20 x21 x22 x23 = (Aa9.F (x16, (0 : Int), ())).bind fun r24 => if (decide (i15 < (r24.1.1.length : Int))) = true then (Af6.F (x22, i15, ())).bind fun r25 => if r25.1.1 = true then (Ad3.F ((x16, (i17, (x18, x19))), x20, x13, i15, ())).bind fun r26 => if x23.length + r26.1.1.length ≤ bigA then l9 k x13 x14 (IntKind.i64.wrap (i15 + 1)) x16 i17 x18 x19 x20 x21 x22 (x23 ++ r26.1.1) else none else (Ad3.F ((x16, (i17, (x18, x19))), x21, x14, i15, ())).bind fun r27 => if x23.length + r27.1.1.length ≤ bigA then l9 k x13 x14 (IntKind.i64.wrap (i15 + 1)) x16 i17 x18 x19 x20 x21 x22 (x23 ++ r27.1.1) else none else some ((x23, ((0 : Int), ())), ()) := by kernel_rfl
variable (s_1 : LL) (s_2 : Int) (s_3 : LI) (s_4 : LM) (a_5 b_6 : LL) (x_7 y_8 : LI)
noncomputable def T : Option ((LI × Int × Unit) × (Unit)) := (Al4.F ((s_1, (s_2, (s_3, s_4))), a_5, b_6, x_7, y_8, ())).bind fun r9 => if (r9.1.1 == 0) = true then (Aj7.F ((s_1, (s_2, (s_3, s_4))), a_5, b_6, x_7, y_8, ())).bind fun r10 => (Am9.F (r10.1.1, ())).bind fun r11 => if (!r11.1.1) = true then if ((3 : Int) != 0) = true then some (([], ((3 : Int), ())), ()) else (Ac3.F ((s_1, (s_2, (s_3, s_4))), a_5, ())).bind fun r12 => l9 k x_7 y_8 (0 : Int) s_1 s_2 s_3 s_4 a_5 b_6 r12.1.1 ([] : LI) else if (r9.1.1 != 0) = true then some (([], (r9.1.1, ())), ()) else (Ac3.F ((s_1, (s_2, (s_3, s_4))), a_5, ())).bind fun r28 => l9 k x_7 y_8 (0 : Int) s_1 s_2 s_3 s_4 a_5 b_6 r28.1.1 ([] : LI) else if (r9.1.1 != 0) = true then some (([], (r9.1.1, ())), ()) else (Ac3.F ((s_1, (s_2, (s_3, s_4))), a_5, ())).bind fun r29 => l9 k x_7 y_8 (0 : Int) s_1 s_2 s_3 s_4 a_5 b_6 r29.1.1 ([] : LI)
theorem of {r} (h : Ev (fun k => T k s_1 s_2 s_3 s_4 a_5 b_6 x_7 y_8) r) : F ((s_1, (s_2, (s_3, s_4))), a_5, b_6, x_7, y_8, ()) = some r := Ev.run (fun k => by kernel_rfl) h
theorem S : a2Z prog ⟨24, sig, F⟩ := sound_k (res := [.tmp 10, .tmp 11]) func24 (cok (cM ⟨Al4.S, cM ⟨Aj7.S, cM ⟨Am9.S, cM ⟨Ac3.S, cM ⟨Aa9.S, cM ⟨Af6.S, cM ⟨Ad3.S, nM⟩⟩⟩⟩⟩⟩⟩))
end Ah0
namespace Ae1
noncomputable def sig : Sig := ⟨[pC], [oL]⟩
noncomputable def cfg : Cfg := cl (cx []) fun id => match id with | 3 => ([3, 7, 8, 9], [12]) | _ => ([], [])
noncomputable def fin := finK cfg.c sig [.tmp 2]
noncomputable def F (d : LL × Unit) : OL := anyK (a8N cfg fin (bd f56) (a5B sig.ps d 24))
variable (k : Nat) (x2 : LL) (i3 i4 : Int) (x5 : LI)
noncomputable def l3 : OL := Vm.runT cfg fin k [.inLoop (sub [1, 1, 0, 1, 0, 0] (bd f56)), .inBlock 0, .code (sub [1, 1, 1] (bd f56))] ⟨[dD, dD, dD, .view 12 (.root 0) 1 false, dD, dD, dD, vQ x2, vI i3, vI i4] ++ a7W 14, [(12, ⟨false, [dL x5]⟩)]⟩
theorem l3_eq : l3 (k + 1) x2 i3 i4 x5 = if (decide (i4 < i3)) = true then if 0 ≤ i4 ∧ i4 < (x2.length : Int) then if (((x2.getD i4.toNat ([] : LI)).length : Int) == 1) = true then if 0 ≤ (0 : Int) ∧ (0 : Int) < ((x2.getD i4.toNat ([] : LI)).length : Int) then if x5.length + [(x2.getD i4.toNat ([] : LI)).getD (0 : Int).toNat 0].length ≤ bigA then l3 k x2 i3 (IntKind.i64.wrap (i4 + 1)) (x5 ++ [(x2.getD i4.toNat ([] : LI)).getD (0 : Int).toNat 0]) else none else none else l3 k x2 i3 (IntKind.i64.wrap (i4 + 1)) x5 else none else some ((x5, ()), ()) := by kernel_rfl
variable (c_1 : LL)
noncomputable def T : OL := l3 k c_1 (c_1.length : Int) (0 : Int) ([])
theorem of {r} (h : Ev (fun k => T k c_1) r) : F (c_1, ()) = some r := Ev.run (fun k => by kernel_rfl) h
theorem S : a2Z prog ⟨56, sig, F⟩ := sound_k (res := [.tmp 2]) func56 (cok nM)
end Ae1
namespace Aq1
noncomputable def sig : Sig := ⟨[pQ, pL, .fnx ⟨[(false, tL), (false, tL)], [oI]⟩], [oI, oB]⟩
noncomputable def cfg : Cfg := cl (cx []) fun id => match id with | 3 => ([0, 1, 2, 8, 9, 10], []) | _ => ([], [])
noncomputable def fin := finK cfg.c sig [.tmp 6, .tmp 7]
noncomputable def F (d : LL × LI × ((LI × LI × Unit) → Option (Int × Unit)) × Unit) : Option ((Int × Bool × Unit) × (Unit)) := anyK (a8N cfg fin (bd f95) (a5B sig.ps d 49))
variable (k : Nat) (x4 : LL) (x5 : LI) (f6 : (LI × LI × Unit) → Option (Int × Unit)) (i7 i8 i9 : Int)
noncomputable def l3 : Option ((Int × Bool × Unit) × (Unit)) := Vm.runT cfg fin k [.inLoop (sub [1, 1, 1, 0, 0, 0] (bd f95)), .inBlock 0, .code (sub [1, 1, 1, 1] (bd f95))] ⟨[vQ x4, vL x5, .fnx ⟨[(false, tL), (false, tL)], [(.val false, tI, .deep)]⟩ f6, dD, dD, dD, dD, dD, vI i7, vI i8, vI i9] ++ a7W 38, []⟩
theorem l3_eq : l3 (k + 1) x4 x5 f6 i7 i8 i9 = if (decide (i8 < i9)) = true then if (1 : Int) < 0 then none else if 0 ≤ (IntKind.i64.wrap ((IntKind.u64.wrap (IntKind.i64.wrap (i8 + i9))).fdiv (2 ^ (min (1 : Int).toNat IntKind.u64.bits)))) ∧ (IntKind.i64.wrap ((IntKind.u64.wrap (IntKind.i64.wrap (i8 + i9))).fdiv (2 ^ (min (1 : Int).toNat IntKind.u64.bits)))) < (x4.length : Int) then (f6 (x4.getD (IntKind.i64.wrap ((IntKind.u64.wrap (IntKind.i64.wrap (i8 + i9))).fdiv (2 ^ (min (1 : Int).toNat IntKind.u64.bits)))).toNat ([] : LI), x5, ())).bind fun r10 => if (decide (r10.1 < 0)) = true then l3 k x4 x5 f6 i7 (IntKind.i64.wrap ((IntKind.i64.wrap ((IntKind.u64.wrap (IntKind.i64.wrap (i8 + i9))).fdiv (2 ^ (min (1 : Int).toNat IntKind.u64.bits)))) + 1)) i9 else l3 k x4 x5 f6 i7 i8 (IntKind.i64.wrap ((IntKind.u64.wrap (IntKind.i64.wrap (i8 + i9))).fdiv (2 ^ (min (1 : Int).toNat IntKind.u64.bits)))) else none else if (decide (i8 < i7)) = true then if 0 ≤ i8 ∧ i8 < (x4.length : Int) then (f6 (x4.getD i8.toNat ([] : LI), x5, ())).bind fun r11 => some ((i8, (r11.1 == (0 : Int), ())), ()) else none else some ((i8, (false, ())), ()) := by kernel_rfl
variable (x_1 : LL) (target_2 : LI) (f_3 : (LI × LI × Unit) → Option (Int × Unit))
noncomputable def T : Option ((Int × Bool × Unit) × (Unit)) := l3 k x_1 target_2 f_3 (x_1.length : Int) (0 : Int) (x_1.length : Int)
theorem of {r} (h : Ev (fun k => T k x_1 target_2 f_3) r) : F (x_1, target_2, f_3, ()) = some r := Ev.run (fun k => by kernel_rfl) h
theorem S : a2Z prog ⟨95, sig, F⟩ := sound_k (res := [.tmp 6, .tmp 7]) func95 (cok nM)
end Aq1
namespace Aj0
noncomputable def sig : Sig := ⟨[pL], [oI]⟩
noncomputable def cfg : Cfg := cl (cx []) fun id => match id with | 3 => ([3, 6, 7, 8], []) | _ => ([], [])
noncomputable def fin := finK cfg.c sig [.tmp 2]
noncomputable def F (d : LI × Unit) : OI := anyK (a8N cfg fin (bd f145) (a5B sig.ps d 18))
variable (k : Nat) (i2 : Int) (x3 : LI) (i4 i5 : Int)
noncomputable def l3 : OI := Vm.runT cfg fin k [.inLoop (sub [1, 1, 0, 1, 0, 0] (bd f145)), .inBlock 0, .code (sub [1, 1, 1] (bd f145))] ⟨[dD, dD, dD, vI i2, dD, dD, vL x3, vI i4, vI i5] ++ a7W 9, []⟩
theorem l3_eq : l3 (k + 1) i2 x3 i4 i5 = if (decide (i5 < i4)) = true then if 0 ≤ i5 ∧ i5 < (x3.length : Int) then if ((x3.getD i5.toNat 0 : Int) != i2) = true then some (((x3.getD i5.toNat 0 : Int), ()), ()) else l3 k i2 x3 i4 (IntKind.i64.wrap (i5 + 1)) else none else some ((i2, ()), ()) := by kernel_rfl
variable (vals_1 : LI)
noncomputable def T : OI := l3 k (0 : Int) vals_1 (vals_1.length : Int) (0 : Int)
theorem of {r} (h : Ev (fun k => T k vals_1) r) : F (vals_1, ()) = some r := Ev.run (fun k => by kernel_rfl) h
theorem S : a2Z prog ⟨145, sig, F⟩ := sound_k (res := [.tmp 2]) func145 (cok nM)
end Aj0
namespace An8
noncomputable def sig : Sig := ⟨[pI], [oB]⟩
noncomputable def cfg : Cfg := cf (cx [])
noncomputable def fin := finK cfg.c sig [.tmp 2]
noncomputable def F (d : Int × Unit) : OB := anyK (a8N cfg fin (bd f183) (a5B sig.ps d 6))
variable (x_1 : Int)
noncomputable def T : OB := some ((x_1 != x_1, ()), ())
theorem eq : F (x_1, ()) = T x_1 := eq_any fun k => by kernel_rfl
theorem S : a2Z prog ⟨183, sig, F⟩ := sound_k (res := [.tmp 2]) func183 (cok nM)
end An8
namespace An6
noncomputable def sig : Sig := ⟨[pI, pI], [oI]⟩
noncomputable def cfg : Cfg := cf (cx [⟨183, An8.sig, An8.F⟩])
noncomputable def fin := finK cfg.c sig [.tmp 4]
noncomputable def F (d : Int × Int × Unit) : OI := anyK (a8N cfg fin (bd f146) (a5B sig.ps d 20))
variable (x_1 y_2 : Int)
noncomputable def T : OI := (An8.F (x_1, ())).bind fun r3 => (An8.F (y_2, ())).bind fun r4 => if r3.1.1 = true then if r4.1.1 = true then some ((0, ()), ()) else some (((-1 : Int), ()), ()) else if r4.1.1 = true then some ((1, ()), ()) else if (decide (x_1 < y_2)) = true then some (((-1 : Int), ()), ()) else if (decide (x_1 > y_2)) = true then some ((1, ()), ()) else some ((0, ()), ())
theorem eq : F (x_1, y_2, ()) = T x_1 y_2 := eq_any fun k => by kernel_rfl
theorem S : a2Z prog ⟨146, sig, F⟩ := sound_k (res := [.tmp 4]) func146 (cok (cM ⟨An8.S, nM⟩))
end An6
namespace An9
noncomputable def sig : Sig := ⟨[pI], [oB]⟩
noncomputable def cfg : Cfg := cf (cx [])
noncomputable def fin := finK cfg.c sig [.tmp 2]
noncomputable def F (d : Int × Unit) : OB := anyK (a8N cfg fin (bd f207) (a5B sig.ps d 6))
variable (x_1 : Int)
noncomputable def T : OB := some ((x_1 != x_1, ()), ())
theorem eq : F (x_1, ()) = T x_1 := eq_any fun k => by kernel_rfl
theorem S : a2Z prog ⟨207, sig, F⟩ := sound_k (res := [.tmp 2]) func207 (cok nM)
end An9
namespace An7
noncomputable def sig : Sig := ⟨[pI, pI], [oI]⟩
noncomputable def cfg : Cfg := cf (cx [⟨207, An9.sig, An9.F⟩])
noncomputable def fin := finK cfg.c sig [.tmp 4]
noncomputable def F (d : Int × Int × Unit) : OI := anyK (a8N cfg fin (bd f184) (a5B sig.ps d 20))
variable (x_1 y_2 : Int)
noncomputable def T : OI := (An9.F (x_1, ())).bind fun r3 => (An9.F (y_2, ())).bind fun r4 => if r3.1.1 = true then if r4.1.1 = true then some ((0, ()), ()) else some (((-1 : Int), ()), ()) else if r4.1.1 = true then some ((1, ()), ()) else if (decide (x_1 < y_2)) = true then some (((-1 : Int), ()), ()) else if (decide (x_1 > y_2)) = true then some ((1, ()), ()) else some ((0, ()), ())
theorem eq : F (x_1, y_2, ()) = T x_1 y_2 := eq_any fun k => by kernel_rfl
theorem S : a2Z prog ⟨184, sig, F⟩ := sound_k (res := [.tmp 4]) func184 (cok (cM ⟨An9.S, nM⟩))
end An7
namespace Ak6
noncomputable def sig : Sig := ⟨[pL, pL], [oI]⟩
noncomputable def cfg : Cfg := cl (cx [⟨184, An7.sig, An7.F⟩]) fun id => match id with | 2 => ([0, 1, 9, 10, 11], []) | _ => ([], [])
noncomputable def fin := finK cfg.c sig [.tmp 4]
noncomputable def F (d : LI × LI × Unit) : OI := anyK (a8N cfg fin (bd f147) (a5B sig.ps d 36))
variable (k : Nat) (x3 x4 x5 : LI) (i6 i7 : Int)
noncomputable def l2 : OI := Vm.runT cfg fin k [.inLoop (sub [1, 0, 1, 0, 0] (bd f147)), .inBlock 0, .code (sub [1, 1] (bd f147))] ⟨[vL x3, vL x4, dD, dD, dD, dD, dD, dD, dD, vL x5, vI i6, vI i7] ++ a7W 24, []⟩
theorem l2_eq : l2 (k + 1) x3 x4 x5 i6 i7 = if (decide (i7 < i6)) = true then if 0 ≤ i7 ∧ i7 < (x5.length : Int) then if (decide (i7 ≥ (x4.length : Int))) = true then some ((1, ()), ()) else if 0 ≤ i7 ∧ i7 < (x4.length : Int) then (An7.F ((x5.getD i7.toNat 0 : Int), (x4.getD i7.toNat 0 : Int), ())).bind fun r8 => if (r8.1.1 != 0) = true then some ((r8.1.1, ()), ()) else l2 k x3 x4 x5 i6 (IntKind.i64.wrap (i7 + 1)) else none else none else if (decide ((x3.length : Int) < (x4.length : Int))) = true then some (((-1 : Int), ()), ()) else some ((0, ()), ()) := by kernel_rfl
variable (s1_1 s2_2 : LI)
noncomputable def T : OI := l2 k s1_1 s2_2 s1_1 (s1_1.length : Int) (0 : Int)
theorem of {r} (h : Ev (fun k => T k s1_1 s2_2) r) : F (s1_1, s2_2, ()) = some r := Ev.run (fun k => by kernel_rfl) h
theorem S : a2Z prog ⟨147, sig, F⟩ := sound_k (res := [.tmp 4]) func147 (cok (cM ⟨An7.S, nM⟩))
end Ak6
namespace Ac8
noncomputable def sig : Sig := ⟨[pL, pL], [oI]⟩
noncomputable def cfg : Cfg := cf (cx [⟨145, Aj0.sig, Aj0.F⟩, ⟨146, An6.sig, An6.F⟩, ⟨147, Ak6.sig, Ak6.F⟩])
noncomputable def fin := finK cfg.c sig [.tmp 4]
noncomputable def F (d : LI × LI × Unit) : OI := anyK (a8N cfg fin (bd f96) (a5B sig.ps d 15))
variable (a_1 b_2 : LI)
noncomputable def T : OI := (An6.F ((a_1.length : Int), (b_2.length : Int), ())).bind fun r3 => (Ak6.F (a_1, b_2, ())).bind fun r4 => (Aj0.F ([r3.1.1, r4.1.1], ())).bind fun r5 => some ((r5.1.1, ()), ())
theorem eq : F (a_1, b_2, ()) = T a_1 b_2 := eq_any fun k => by kernel_rfl
theorem S : a2Z prog ⟨96, sig, F⟩ := sound_k (res := [.tmp 4]) func96 (cok (cM ⟨Aj0.S, cM ⟨An6.S, cM ⟨Ak6.S, nM⟩⟩⟩))
noncomputable def cloG (y : Unit) (d : LI × LI × Unit) : Option (Int × Unit) := (F (a8s [] [(false, tL), (false, tL)] d y)).map (·.1)
noncomputable def clo : Clo := ⟨96, ⟨[(false, tL), (false, tL)], [(.val false, tI, .deep)]⟩, [], cloG⟩
theorem cloS : a4i prog clo := sound_clo (s := ⟨[(false, tL), (false, tL)], [(.val false, tI, .deep)]⟩) (caps := []) rfl S
end Ac8
namespace Aa1
noncomputable def sig : Sig := ⟨[pC, pL], [oI]⟩
noncomputable def cfg : Cfg := cf ⟨a2H tabl, [⟨95, Aq1.sig, Aq1.F⟩], [Ac8.clo], [], [], []⟩
noncomputable def fin := finK cfg.c sig [.tmp 4]
noncomputable def F (d : LL × LI × Unit) : OI := anyK (a8N cfg fin (bd f57) (a5B sig.ps d 17))
variable (c_1 : LL) (s_2 : LI)
noncomputable def T : OI := (Aq1.F (c_1, s_2, Ac8.cloG (()), ())).bind fun r3 => if (!r3.1.2.1) = true then some (((-1 : Int), ()), ()) else some ((r3.1.1, ()), ())
theorem eq : F (c_1, s_2, ()) = T c_1 s_2 := eq_any fun k => by kernel_rfl
theorem S : a2Z prog ⟨57, sig, F⟩ := sound_k (res := [.tmp 4]) func57 (⟨nM, mixed_ok, tab_ok tab_good, cM ⟨Aq1.S, nM⟩, cM ⟨Ac8.cloS, nM⟩, nM⟩)
end Aa1
namespace Ae8
noncomputable def sig : Sig := ⟨[pL, pI], [oI]⟩
noncomputable def cfg : Cfg := cl (cx []) fun id => match id with | 2 => ([0, 1, 7, 8], []) | _ => ([], [])
noncomputable def fin := finK cfg.c sig [.tmp 4]
noncomputable def F (d : LI × Int × Unit) : OI := anyK (a8N cfg fin (bd f169) (a5B sig.ps d 19))
variable (k : Nat) (x3 : LI) (i4 i5 i6 : Int)
noncomputable def l2 : OI := Vm.runT cfg fin k [.inLoop (sub [1, 0, 1, 0, 0] (bd f169)), .inBlock 0, .code (sub [1, 1] (bd f169))] ⟨[vL x3, vI i4, dD, dD, dD, dD, dD, vI i5, vI i6] ++ a7W 10, []⟩
theorem l2_eq : l2 (k + 1) x3 i4 i5 i6 = if (decide (i6 < i5)) = true then if 0 ≤ i6 ∧ i6 < (x3.length : Int) then if (i4 == (x3.getD i6.toNat 0 : Int)) = true then some ((i6, ()), ()) else l2 k x3 i4 i5 (IntKind.i64.wrap (i6 + 1)) else none else some (((-1 : Int), ()), ()) := by kernel_rfl
variable (s_1 : LI) (v_2 : Int)
noncomputable def T : OI := l2 k s_1 v_2 (s_1.length : Int) (0 : Int)
theorem of {r} (h : Ev (fun k => T k s_1 v_2) r) : F (s_1, v_2, ()) = some r := Ev.run (fun k => by kernel_rfl) h
theorem S : a2Z prog ⟨169, sig, F⟩ := sound_k (res := [.tmp 4]) func169 (cok nM)
end Ae8
namespace Ar0
noncomputable def sig : Sig := sortIS
noncomputable def F (d : LI × Unit) : Option ((Unit) × (LI × Unit)) := b3w d
def ren : Go.Shelf.Ren := ⟨fun | 53 => 170 | 59 => 218 | 63 => 196 | 64 => 197 | 68 => 207 | 70 => 212 | 71 => 213 | 72 => 214 | 73 => 215 | 74 => 216 | 75 => 217 | 76 => 219 | 77 => 220 | 78 => 221 | 79 => 222 | 88 => 234 | 89 => 235 | 90 => 236 | 91 => 237 | 92 => 238 | 96 => 242 | n => n, fun | 0 => 0 | 3 => 3 | 4 => 4 | 5 => 5 | 9 => 9 | 22 => 25 | 23 => 2 | 44 => 113 | 51 => 153 | 60 => 191 | 61 => 192 | 67 => 198 | 69 => 200 | 75 => 209 | 79 => 213 | 83 => 217 | 84 => 218 | n => n, fun n => n⟩
theorem lays : Go.Proofs.SlLaysN.n53 prog ren where
  mixed := by kernel_rfl
  f53 := ⟨"slices.Sort[[]int64,int64]", by decide, func170.trans (congrArg some (by kernel_rfl))⟩
  f59 := ⟨"cmp.Less[int64]", by decide, func218.trans (congrArg some (by kernel_rfl))⟩
  f63 := ⟨"slices.pdqsortOrdered[int64]", by decide, func196.trans (congrArg some (by kernel_rfl))⟩
  f64 := func197.trans (congrArg some (by kernel_rfl))
  f68 := ⟨"cmp.isNaN[int64]", by decide, func207.trans (congrArg some (by kernel_rfl))⟩
  f70 := ⟨"slices.insertionSortOrdered[int64]", by decide, func212.trans (congrArg some (by kernel_rfl))⟩
  f71 := ⟨"slices.heapSortOrdered[int64]", by decide, func213.trans (congrArg some (by kernel_rfl))⟩
  f72 := ⟨"slices.breakPatternsOrdered[int64]", by decide, func214.trans (congrArg some (by kernel_rfl))⟩
  f73 := ⟨"slices.choosePivotOrdered[int64]", by decide, func215.trans (congrArg some (by kernel_rfl))⟩
  f74 := ⟨"slices.reverseRangeOrdered[int64]", by decide, func216.trans (congrArg some (by kernel_rfl))⟩
  f75 := ⟨"slices.partialInsertionSortOrdered[int64]", by decide, func217.trans (congrArg some (by kernel_rfl))⟩
  f76 := ⟨"slices.partitionEqualOrdered[int64]", by decide, func219.trans (congrArg some (by kernel_rfl))⟩
  f77 := ⟨"slices.partitionOrdered[int64]", by decide, func220.trans (congrArg some (by kernel_rfl))⟩
  f78 := func221.trans (congrArg some (by kernel_rfl))
  f79 := func222.trans (congrArg some (by kernel_rfl))
  f88 := ⟨"slices.siftDownOrdered[int64]", by decide, func234.trans (congrArg some (by kernel_rfl))⟩
  f89 := func235.trans (congrArg some (by kernel_rfl))
  f90 := func236.trans (congrArg some (by kernel_rfl))
  f91 := ⟨"slices.medianAdjacentOrdered[int64]", by decide, func237.trans (congrArg some (by kernel_rfl))⟩
  f92 := ⟨"slices.medianOrdered[int64]", by decide, func238.trans (congrArg some (by kernel_rfl))⟩
  f96 := ⟨"slices.order2Ordered[int64]", by decide, func242.trans (congrArg some (by kernel_rfl))⟩
  t0 := underlying0
  a0 := isAgg0
  z0 := sizeOf0
  v0 := zeroValue0
  t3 := underlying3
  a3 := isAgg3
  z3 := sizeOf3
  v3 := zeroValue3
  t4 := underlying4
  a4 := isAgg4
  z4 := sizeOf4
  v4 := zeroValue4
  t5 := underlying5
  a5 := isAgg5
  z5 := sizeOf5
  v5 := zeroValue5
  t9 := underlying9
  a9 := isAgg9
  z9 := sizeOf9
  v9 := zeroValue9
  t22 := underlying25
  a22 := isAgg25
  z22 := sizeOf25
  v22 := zeroValue25
  t23 := underlying2
  a23 := isAgg2
  z23 := sizeOf2
  v23 := zeroValue2
  t44 := underlying113
  a44 := isAgg113
  z44 := sizeOf113
  v44 := zeroValue113
  t51 := underlying153
  a51 := isAgg153
  z51 := sizeOf153
  v51 := zeroValue153
  t60 := underlying191
  a60 := isAgg191
  z60 := sizeOf191
  v60 := zeroValue191
  t61 := underlying192
  a61 := isAgg192
  z61 := sizeOf192
  v61 := zeroValue192
  t67 := underlying198
  a67 := isAgg198
  z67 := sizeOf198
  v67 := zeroValue198
  t69 := underlying200
  a69 := isAgg200
  z69 := sizeOf200
  v69 := zeroValue200
  t75 := underlying209
  a75 := isAgg209
  z75 := sizeOf209
  v75 := zeroValue209
  t79 := underlying213
  a79 := isAgg213
  z79 := sizeOf213
  v79 := zeroValue213
  t83 := underlying217
  a83 := isAgg217
  z83 := sizeOf217
  v83 := zeroValue217
  t84 := underlying218
  a84 := isAgg218
  z84 := sizeOf218
  v84 := zeroValue218
set_option maxRecDepth 100000 in
theorem S : a2Z prog ⟨170, sig, F⟩ := sortI_sound lays
end Ar0
namespace Aq8
noncomputable def sig : Sig := compIS
noncomputable def F (d : LI × Unit) : OL := b2t d
def ren : Go.Shelf.Ren := ⟨fun | 43 => 171 | n => n, fun | 0 => 0 | 3 => 3 | 4 => 4 | 22 => 25 | 23 => 2 | n => n, fun n => n⟩
theorem lays : Go.Proofs.SlLaysN.n43 prog ren where
  mixed := by kernel_rfl
  f43 := ⟨"slices.Compact[[]int64,int64]", by decide, func171.trans (congrArg some (by kernel_rfl))⟩
  t0 := underlying0
  a0 := isAgg0
  z0 := sizeOf0
  v0 := zeroValue0
  t3 := underlying3
  a3 := isAgg3
  z3 := sizeOf3
  v3 := zeroValue3
  t4 := underlying4
  a4 := isAgg4
  z4 := sizeOf4
  v4 := zeroValue4
  t22 := underlying25
  a22 := isAgg25
  z22 := sizeOf25
  v22 := zeroValue25
  t23 := underlying2
  a23 := isAgg2
  z23 := sizeOf2
  v23 := zeroValue2
  i23 := by kernel_rfl
set_option maxRecDepth 100000 in
theorem S : a2Z prog ⟨171, sig, F⟩ := compI_sound lays
end Aq8
namespace Ak2
noncomputable def sig : Sig := ⟨[pC, pL, pL], [oL]⟩
noncomputable def cfg : Cfg := cl (cx [⟨56, Ae1.sig, Ae1.F⟩, ⟨169, Ae8.sig, Ae8.F⟩, ⟨170, Ar0.sig, Ar0.F⟩, ⟨171, Aq8.sig, Aq8.F⟩]) fun id => match id with | 4 => ([1, 7, 8, 13, 14, 15], [28, 32]) | _ => ([], [])
noncomputable def fin := finK cfg.c sig [.tmp 6]
noncomputable def F (d : LL × LI × LI × Unit) : OL := anyK (a8N cfg fin (bd f135) (a5B sig.ps d 33))
variable (k : Nat) (x5 x6 : LI) (i7 i8 : Int) (x9 x10 : LI)
noncomputable def l4 : OL := Vm.runT cfg fin k [.inLoop (sub [1, 1, 1, 0, 1, 0, 0] (bd f135)), .inBlock 0, .code (sub [1, 1, 1, 1] (bd f135))] ⟨[dD, vL x5, dD, dD, dD, dD, dD, .view 28 (.root 0) 1 false, .view 32 (.root 0) 1 false, dD, dD, dD, dD, vL x6, vI i7, vI i8] ++ a7W 17, [(28, ⟨false, [dL x9]⟩), (32, ⟨false, [dL x10]⟩)]⟩
theorem l4_eq : l4 (k + 1) x5 x6 i7 i8 x9 x10 = if (decide (i8 < i7)) = true then if 0 ≤ i8 ∧ i8 < (x6.length : Int) then (Ae8.F (x9, (x6.getD i8.toNat 0 : Int), ())).bind fun r11 => if 0 ≤ r11.1.1 ∧ r11.1.1 < (x5.length : Int) then if x10.length + [x5.getD r11.1.1.toNat 0].length ≤ bigA then l4 k x5 x6 i7 (IntKind.i64.wrap (i8 + 1)) x9 (x10 ++ [x5.getD r11.1.1.toNat 0]) else none else none else none else (Ar0.F (x10, ())).bind fun r12 => (Aq8.F (r12.2.1, ())).bind fun r13 => some ((r13.1.1, ()), ()) := by kernel_rfl
variable (a_1 : LL) (images_2 s_3 : LI)
noncomputable def T : OL := (Ae1.F (a_1, ())).bind fun r4 => l4 k images_2 s_3 (s_3.length : Int) (0 : Int) r4.1.1 ([])
theorem of {r} (h : Ev (fun k => T k a_1 images_2 s_3) r) : F (a_1, images_2, s_3, ()) = some r := Ev.run (fun k => by kernel_rfl) h
theorem S : a2Z prog ⟨135, sig, F⟩ := sound_k (res := [.tmp 6]) func135 (cok (cM ⟨Ae1.S, cM ⟨Ae8.S, cM ⟨Ar0.S, cM ⟨Aq8.S, nM⟩⟩⟩⟩))
end Ak2
namespace Ab6
noncomputable def sig : Sig := ⟨[pL], [oL]⟩
noncomputable def cfg : Cfg := cf (cx [])
noncomputable def fin := finK cfg.c sig [.tmp 2]
noncomputable def F (d : LI × Unit) : OL := anyK (a8N cfg fin (bd f98) (a5B sig.ps d 8))
variable (s_1 : LI)
noncomputable def T : OL := if 0 < s_1.length then if ([] : LI).length + s_1.length ≤ bigA then some ((([] : LI) ++ s_1, ()), ()) else none else both ( some (([], ()), ()) ) ( if ([] : LI).length + s_1.length ≤ bigA then some ((([] : LI) ++ s_1, ()), ()) else none )
theorem eq : F (s_1, ()) = T s_1 := eq_any fun k => by kernel_rfl
theorem S : a2Z prog ⟨98, sig, F⟩ := sound_k (res := [.tmp 2]) func98 (cok nM)
end Ab6
namespace Al8
noncomputable def sig : Sig := ⟨[pQ], [oQ]⟩
noncomputable def cfg : Cfg := cl (cx [⟨98, Ab6.sig, Ab6.F⟩]) fun id => match id with | 3 => ([3, 6, 7, 8], [12]) | _ => ([], [])
noncomputable def fin := finK cfg.c sig [.tmp 2]
noncomputable def F (d : LL × Unit) : OQ := anyK (a8N cfg fin (bd f185) (a5B sig.ps d 19))
variable (k : Nat) (x2 : LL) (i3 i4 : Int) (x5 : LL)
noncomputable def l3 : OQ := Vm.runT cfg fin k [.inLoop (sub [1, 1, 0, 1, 0, 0] (bd f185)), .inBlock 0, .code (sub [1, 1, 1] (bd f185))] ⟨[dD, dD, dD, .view 12 (.root 0) 1 false, dD, dD, vQ x2, vI i3, vI i4] ++ a7W 10, [(12, ⟨false, [dQ x5]⟩)]⟩
theorem l3_eq : l3 (k + 1) x2 i3 i4 x5 = if (decide (i4 < i3)) = true then if 0 ≤ i4 ∧ i4 < (x2.length : Int) then (Ab6.F (x2.getD i4.toNat ([] : LI), ())).bind fun r6 => if x5.length + [r6.1.1].length ≤ bigA then l3 k x2 i3 (IntKind.i64.wrap (i4 + 1)) (x5 ++ [r6.1.1]) else none else none else some ((x5, ()), ()) := by kernel_rfl
variable (lists_1 : LL)
noncomputable def T : OQ := l3 k lists_1 (lists_1.length : Int) (0 : Int) ([])
theorem of {r} (h : Ev (fun k => T k lists_1) r) : F (lists_1, ()) = some r := Ev.run (fun k => by kernel_rfl) h
theorem S : a2Z prog ⟨185, sig, F⟩ := sound_k (res := [.tmp 2]) func185 (cok (cM ⟨Ab6.S, nM⟩))
end Al8
namespace Aq9
noncomputable def sig : Sig := sortS
noncomputable def F (d : LL × ((LI × LI × Unit) → Option (Int × Unit)) × Unit) : Option ((Unit) × (LL × Unit)) := sortF ordS d
def ren : Go.Shelf.Ren := ⟨fun | 6 => 186 | 14 => 208 | 15 => 197 | 20 => 225 | 21 => 226 | 22 => 227 | 23 => 228 | 24 => 229 | 25 => 230 | 26 => 231 | 27 => 232 | 28 => 221 | 29 => 222 | 46 => 239 | 47 => 235 | 48 => 236 | 49 => 240 | 50 => 241 | 57 => 243 | n => n, fun | 0 => 0 | 3 => 3 | 4 => 4 | 5 => 5 | 9 => 9 | 22 => 22 | 24 => 25 | 25 => 115 | 39 => 153 | 45 => 191 | 46 => 192 | 50 => 113 | 53 => 198 | 55 => 200 | 66 => 209 | 70 => 213 | 76 => 217 | 77 => 218 | n => n, fun n => n⟩
theorem lays : Go.Proofs.SlLaysF.n6 prog ren where
  mixed := by kernel_rfl
  f6 := ⟨"slices.SortFunc[[][]int64,[]int64]", by decide, func186.trans (congrArg some (by kernel_rfl))⟩
  f14 := ⟨"slices.pdqsortCmpFunc[[]int64]", by decide, func208.trans (congrArg some (by kernel_rfl))⟩
  f15 := func197.trans (congrArg some (by kernel_rfl))
  f20 := ⟨"slices.insertionSortCmpFunc[[]int64]", by decide, func225.trans (congrArg some (by kernel_rfl))⟩
  f21 := ⟨"slices.heapSortCmpFunc[[]int64]", by decide, func226.trans (congrArg some (by kernel_rfl))⟩
  f22 := ⟨"slices.breakPatternsCmpFunc[[]int64]", by decide, func227.trans (congrArg some (by kernel_rfl))⟩
  f23 := ⟨"slices.choosePivotCmpFunc[[]int64]", by decide, func228.trans (congrArg some (by kernel_rfl))⟩
  f24 := ⟨"slices.reverseRangeCmpFunc[[]int64]", by decide, func229.trans (congrArg some (by kernel_rfl))⟩
  f25 := ⟨"slices.partialInsertionSortCmpFunc[[]int64]", by decide, func230.trans (congrArg some (by kernel_rfl))⟩
  f26 := ⟨"slices.partitionEqualCmpFunc[[]int64]", by decide, func231.trans (congrArg some (by kernel_rfl))⟩
  f27 := ⟨"slices.partitionCmpFunc[[]int64]", by decide, func232.trans (congrArg some (by kernel_rfl))⟩
  f28 := func221.trans (congrArg some (by kernel_rfl))
  f29 := func222.trans (congrArg some (by kernel_rfl))
  f46 := ⟨"slices.siftDownCmpFunc[[]int64]", by decide, func239.trans (congrArg some (by kernel_rfl))⟩
  f47 := func235.trans (congrArg some (by kernel_rfl))
  f48 := func236.trans (congrArg some (by kernel_rfl))
  f49 := ⟨"slices.medianAdjacentCmpFunc[[]int64]", by decide, func240.trans (congrArg some (by kernel_rfl))⟩
  f50 := ⟨"slices.medianCmpFunc[[]int64]", by decide, func241.trans (congrArg some (by kernel_rfl))⟩
  f57 := ⟨"slices.order2CmpFunc[[]int64]", by decide, func243.trans (congrArg some (by kernel_rfl))⟩
  t0 := underlying0
  a0 := isAgg0
  z0 := sizeOf0
  v0 := zeroValue0
  t3 := underlying3
  a3 := isAgg3
  z3 := sizeOf3
  v3 := zeroValue3
  t4 := underlying4
  a4 := isAgg4
  z4 := sizeOf4
  v4 := zeroValue4
  t5 := underlying5
  a5 := isAgg5
  z5 := sizeOf5
  v5 := zeroValue5
  t9 := underlying9
  a9 := isAgg9
  z9 := sizeOf9
  v9 := zeroValue9
  t22 := underlying22
  a22 := isAgg22
  z22 := sizeOf22
  v22 := zeroValue22
  a24 := isAgg25
  z24 := sizeOf25
  t25 := underlying115
  a25 := isAgg115
  z25 := sizeOf115
  v25 := zeroValue115
  t39 := underlying153
  a39 := isAgg153
  z39 := sizeOf153
  v39 := zeroValue153
  t45 := underlying191
  a45 := isAgg191
  z45 := sizeOf191
  v45 := zeroValue191
  t46 := underlying192
  a46 := isAgg192
  z46 := sizeOf192
  v46 := zeroValue192
  t50 := underlying113
  a50 := isAgg113
  z50 := sizeOf113
  v50 := zeroValue113
  t53 := underlying198
  a53 := isAgg198
  z53 := sizeOf198
  v53 := zeroValue198
  t55 := underlying200
  a55 := isAgg200
  z55 := sizeOf200
  v55 := zeroValue200
  t66 := underlying209
  a66 := isAgg209
  z66 := sizeOf209
  v66 := zeroValue209
  t70 := underlying213
  a70 := isAgg213
  z70 := sizeOf213
  v70 := zeroValue213
  t76 := underlying217
  a76 := isAgg217
  z76 := sizeOf217
  v76 := zeroValue217
  t77 := underlying218
  a77 := isAgg218
  z77 := sizeOf218
  v77 := zeroValue218
theorem S : a2Z prog ⟨186, sig, F⟩ := sort_sound lays ordS_swo ordS_tot
end Aq9
namespace Aq7
noncomputable def sig : Sig := compS
noncomputable def F (d : LL × ((LI × LI × Unit) → Option (Bool × Unit)) × Unit) : OQ := compF d
theorem emp (p : Option Addr) (cap : Nat) (fv : Value) (w : World) : Calls prog 187 #[.slice p 0 cap, fv] w fun e w' => e = .returned (.slice p 0 cap) ∧ w' = w := by
  go_enter func187, ntmps187
  go_wp2
  go_ret
  exact ⟨rfl, rfl⟩
open Go.Proofs Go.Shelf Go.RowKit Go.Lib Go.Sort in
set_option maxHeartbeats 16000000 in
set_option maxRecDepth 1000000 in
theorem walk {α : Type} [Inhabited α] (enc : α → Value) (hO : OneCell enc) (eq : α → α → Bool) (zr : α) (hz : enc zr = .slice none 0 0) (g : Nat) (cb : Array Value) (eg : ∀ args w, (callFunc g args).run prog w = .ok (.enter g args) w)
    (blk off cap : Nat) (d : Array α) (w : World) (hcmp : a8c prog g cb enc eq blk off d.size w) (hH : Holds enc w blk off d) (hblk : blk < w.heap.size) (hsz : d.size < 4611686018427387904) (hcap : d.size ≤ cap) (kp : Nat → Bool) (hkp0 : kp 0 = true) (hkp : ∀ j, 0 < j → kp j = !(eq d[j]! d[j - 1]!)) :
    Calls prog 187 #[.slice (some ⟨blk, off, none⟩) d.size cap, .func (.func g) #[] cb] w fun e w' => e = .returned (.slice (some ⟨blk, off, none⟩) (keptUpTo kp d d.size).length cap) ∧ SW enc w blk off (keptUpTo kp d d.size ++ List.replicate (d.size - (keptUpTo kp d d.size).length) zr).toArray w' := by
  have mixed : prog.follows .mixedOrders = true := mixed_ok
  have hcl0 := hO.cells
  simp only [Value.cells] at hcl0
  have hst := hO.store prog
  have R : Row1 enc w blk off d := ⟨hO, hH, hblk⟩
  have HC : Aside (a8c prog g cb enc eq blk off d.size w) := hcmp
  have S0 : Aside (SW enc w blk off d w) := SW.start hH
  have same : ∀ W, SW enc w blk off d W → (∀ j, j < d.size → kp j = true) → (keptUpTo kp d d.size).length = d.size ∧ SW enc w blk off (keptUpTo kp d d.size ++ List.replicate (d.size - (keptUpTo kp d d.size).length) zr).toArray W := by
    intro W hW hall
    have e : keptUpTo kp d d.size = d.toList := by rw [keptUpTo_all kp d _ hall, range_map_get]
    rw [e]
    refine ⟨by simp, ?_⟩
    simpa using hW
  have HS : Aside _ := same
  have K0 : Aside (kp 0 = true) := hkp0
  have K1 : Aside (∀ j, 0 < j → kp j = !(eq d[j]! d[j - 1]!)) := hkp
  clear hcmp same hkp0 hkp hH
  by_cases h2 : d.size < 2
  · go_enter func187, ntmps187
    go_wp2
    go_ret
    obtain ⟨e1, e2⟩ := HS.out _ S0.out (fun j hj => by
      have : j = 0 := by omega
      rw [this]; exact K0.out)
    exact ⟨by rw [e1]; rfl, e2⟩
  · go_enter func187, ntmps187
    go_wp2
    go_loopg [5] d.size (fun g1 s5 wr => ∃ k : Nat, s5 = .int .i64 k ∧ 1 ≤ k ∧ k ≤ d.size ∧ d.size - k ≤ g1 ∧ Aside (SW enc w blk off d wr) ∧ Hid (∀ j, j < k → kp j = true))
    case atStart => exact ⟨1, rfl, Nat.le_refl _, by omega, by omega, S0, fun j hj => by
      have : j = 0 := by omega
      rw [this]; exact K0.out⟩
    case round =>
      clear S0
      obtain ⟨k, rfl, hk1, hk, hg1, S1, HA⟩ := hrel
      by_cases hlt : k < d.size
      · have hltz : (k : Int) < (d.size : Int) := by omega
        obtain ⟨kq, hkq⟩ : ∃ q, q + 1 = k := ⟨k - 1, by omega⟩
        have zk : (k : Int) = (kq : Int) + 1 := by omega
        obtain ⟨iN, hiN⟩ : ∃ q, q = k := ⟨_, rfl⟩
        obtain ⟨jN, hjN⟩ : ∃ q, q = k - 1 := ⟨_, rfl⟩
        have ea : ((kq : Int) + 1).toNat = iN := by omega
        have pa : (0 : Int) ≤ (kq : Int) + 1 := by omega
        have ba : (kq : Int) + 1 < (d.size : Int) := by omega
        have ra : IntKind.i64.wrap ((kq : Int) + 1) = (kq : Int) + 1 := by rw [IntKind.wrap_i64]; omega
        have ec : ((kq : Int)).toNat = jN := by omega
        have pc : (0 : Int) ≤ (kq : Int) := by omega
        have bc : (kq : Int) < (d.size : Int) := by omega
        have rc : IntKind.i64.wrap ((kq : Int)) = (kq : Int) := by rw [IntKind.wrap_i64]; omega
        obtain ⟨x, hx⟩ : ∃ x, x = d[k]! := ⟨_, rfl⟩
        obtain ⟨y, hy⟩ : ∃ x, x = d[k - 1]! := ⟨_, rfl⟩
        have la := S1.out.cl R rfl k (by omega)
        have lb := S1.out.cl R rfl (k - 1) (by omega)
        rw [← hx, ← hiN] at la
        rw [← hy, ← hjN] at lb
        have hc := sw_eql S1.out HC.out rfl x y
        have KK : Aside (kp k = !(eq x y)) := by rw [hx, hy]; exact K1.out k (by omega)
        clear hx hy hiN hjN
        cases hv : eq x y with
        | true =>
          rw [hv] at hc KK
          go_wp2_with fail
          go_quiet_grown (first | (go_at_fn g; refine Calls.grown_of (hc _ _)))
          have S2 : Aside (SW enc w blk off d (grow (wr.drewN nq) osq)) := S1.out.grown nq osq
          clear la lb hc S1
          generalize grow (wr.drewN nq) osq = w2 at S2 ⊢
          clear nq osq
          clear ea ec pa ba ra pc bc rc
          have hzk : (kq : Int) + 1 = (k : Int) := by omega
          clear zk hkq
          simp only [hzk]
          clear hzk
          go_wp2
          go_loopg [5, 7] d.size (fun g2 s5 s7 wr2 => ∃ (kk k2 : Nat) (dk : Array α), s5 = .int .i64 kk ∧ s7 = .int .i64 k2 ∧ 1 ≤ k2 ∧ k + k2 ≤ d.size ∧ d.size - (k + k2) ≤ g2 ∧ Aside (SW enc w blk off dk wr2) ∧ Aside (KeptInv kp d (k + k2) kk dk))
          case atStart => exact ⟨k, 1, d, rfl, rfl, Nat.le_refl _, by omega, by omega, S2, KeptInv.start HA.out (by rw [KK.out]; rfl)⟩
          case round =>
            clear S2 KK HA
            obtain ⟨kk, k2, dk, rfl, rfl, h1, hle, hg2, S3, I2⟩ := hrel
            have hkk := I2.out.lt
            have hds := I2.out.size
            by_cases hlt2 : k + k2 < d.size
            · obtain ⟨kq, hkq⟩ : ∃ q, q + 1 = k2 := ⟨k2 - 1, by omega⟩
              have zk : (k2 : Int) = (kq : Int) + 1 := by omega
              obtain ⟨iN, hiN⟩ : ∃ q, q = k2 := ⟨_, rfl⟩
              obtain ⟨jN, hjN⟩ : ∃ q, q = k2 - 1 := ⟨_, rfl⟩
              have ea : ((kq : Int) + 1).toNat = iN := by omega
              have pa : (0 : Int) ≤ (kq : Int) + 1 := by omega
              have ba : (kq : Int) + 1 < ((d.size - k : Nat) : Int) := by omega
              have ra : IntKind.i64.wrap ((kq : Int) + 1) = (kq : Int) + 1 := by rw [IntKind.wrap_i64]; omega
              have ec : ((kq : Int)).toNat = jN := by omega
              have pc : (0 : Int) ≤ (kq : Int) := by omega
              have bc : (kq : Int) < ((d.size - k : Nat) : Int) := by omega
              have rc : IntKind.i64.wrap ((kq : Int)) = (kq : Int) := by rw [IntKind.wrap_i64]; omega
              obtain ⟨x, hx⟩ : ∃ x, x = d[k + k2]! := ⟨_, rfl⟩
              obtain ⟨y, hy⟩ : ∃ x, x = d[k + k2 - 1]! := ⟨_, rfl⟩
              have la := S3.out.cl R hds (k + k2) (by omega)
              have lb := S3.out.cl R hds (k + k2 - 1) (by omega)
              rw [I2.out.high (k + k2) (by omega), ← hx, show off + (k + k2) = off + k + iN by omega] at la
              rw [I2.out.high (k + k2 - 1) (by omega), ← hy, show off + (k + k2 - 1) = off + k + jN by omega] at lb
              have hc := sw_eql S3.out HC.out hds x y
              have KK : Aside (kp (k + k2) = !(eq x y)) := by rw [hx, hy]; exact K1.out (k + k2) (by omega)
              have XX : Aside (x = d[k + k2]!) := hx
              clear hx hy hiN hjN
              cases hv : eq x y with
              | true =>
                rw [hv] at hc KK
                go_wp2_with fail
                go_quiet_grown (first | (go_at_fn g; refine Calls.grown_of (hc _ _)))
                have S2 : Aside (SW enc w blk off dk (grow (wr.drewN nq) osq)) := S3.out.grown nq osq
                clear la lb hc S3
                generalize grow (wr.drewN nq) osq = w2 at S2 ⊢
                clear nq osq
                clear ea ec
                go_wp2
                go_roundg (d.size - (k + (k2 + 1)))
                case measure => omega
                case rel => exact ⟨kk, k2 + 1, dk, rfl, by go_num, by omega, by omega, Nat.le_refl _, S2, I2.out.skip (by rw [KK.out]; rfl)⟩
              | false =>
                rw [hv] at hc KK
                go_wp2_with fail
                go_quiet_grown (first | (go_at_fn g; refine Calls.grown_of (hc _ _)))
                have S2 : Aside (SW enc w blk off dk (grow (wr.drewN nq) osq)) := S3.out.grown nq osq
                clear la lb hc S3
                generalize grow (wr.drewN nq) osq = w2 at S2 ⊢
                clear nq osq
                clear ea ec pa ba ra pc bc rc
                have hzk : (kq : Int) + 1 = (k2 : Int) := by omega
                clear zk hkq
                simp only [hzk]
                clear hzk
                have cm := S2.out.c1 R hds (k + k2) (by omega)
                have ck := S2.out.c1 R hds kk (by omega)
                have fk := S2.out.f1 R hds kk (by omega)
                rw [I2.out.high (k + k2) (by omega), ← XX.out, show off + (k + k2) = off + k + k2 by omega] at cm
                generalize dk[kk]! = old at ck
                have hlz : (k2 : Int) < ((d.size - k : Nat) : Int) := by omega
                go_wp2
                go_roundg (d.size - (k + (k2 + 1)))
                case measure => omega
                case rel => exact ⟨kk + 1, k2 + 1, dk.setIfInBounds kk x, by go_num, by go_num, by omega, by omega, Nat.le_refl _, sw_set S2.out hblk kk x (by omega), (by have := I2.out.keep hlt2 (by rw [KK.out]; rfl); rwa [← XX.out] at this)⟩
            · have hend : k + k2 = d.size := by omega
              have hcl : ∀ ty, (Builtin.clear_ #[22] ty #[.slice (some ⟨blk, off + kk, none⟩) (d.size - kk) (cap - kk)]).run prog wr = .ok (.tuple #[]) (wr.setCells blk (off + kk) (List.replicate (d.size - kk) (enc zr))) :=
                fun ty => Lib.run_clear_slice wr _ _ ty _ underlying22 (fun w => by rw [hz]; exact zeroValue25 w) (hO.cells zr) (hO zr) blk (off + kk) _ _ (by omega) (fun j hj => by rw [show off + kk + j = off + (kk + j) by omega, S3.out.c1 R hds (kk + j) (by omega)]; rfl) (fun j hj => by rw [show off + kk + j = off + (kk + j) by omega]; exact S3.out.f1 R hds (kk + j) (by omega))
              go_wp2
              go_ret
              have hI := I2.out
              rw [hend] at hI
              refine ⟨by rw [hI.len]; rfl, ?_⟩
              rw [hI.len, ← hI.done zr]
              have := sw_lay hblk (List.replicate (d.size - kk) zr) dk _ kk S3.out (by simp; omega)
              rw [List.map_replicate, hz] at this
              exact this
        | false =>
          rw [hv] at hc KK
          go_wp2_with fail
          go_quiet_grown (first | (go_at_fn g; refine Calls.grown_of (hc _ _)))
          have S2 : Aside (SW enc w blk off d (grow (wr.drewN nq) osq)) := S1.out.grown nq osq
          clear la lb hc S1
          generalize grow (wr.drewN nq) osq = w2 at S2 ⊢
          clear nq osq
          clear ea ec
          go_wp2
          go_roundg (d.size - (k + 1))
          case measure => omega
          case rel =>
            refine ⟨k + 1, by go_num, by omega, by omega, Nat.le_refl _, S2, fun j hj => ?_⟩
            by_cases e : j = k
            · subst e; exact KK.out
            · exact HA.out j (by omega)
      · have : k = d.size := by omega
        subst this
        go_wp2
        go_ret
        obtain ⟨e1, e2⟩ := HS.out _ S1.out HA.out
        exact ⟨by rw [e1]; rfl, e2⟩
theorem S : a2Z prog ⟨187, sig, F⟩ := comp_sound ⟨⟨_, func187, by kernel_rfl, by kernel_rfl⟩, emp, walk⟩
end Aq7
namespace Ab9
noncomputable def sig : Sig := ⟨[pL, pL], [oB]⟩
noncomputable def cfg : Cfg := cl (cx []) fun id => match id with | 4 => ([0, 1, 12, 13], []) | _ => ([], [])
noncomputable def fin := finK cfg.c sig [.tmp 4]
noncomputable def F (d : LI × LI × Unit) : OB := anyK (a8N cfg fin (bd f188) (a5B sig.ps d 26))
variable (k : Nat) (x3 x4 : LI) (i5 i6 : Int)
noncomputable def l4 : OB := Vm.runT cfg fin k [.inLoop (sub [1, 1, 0, 1, 0, 0] (bd f188)), .inBlock 0, .code (sub [1, 1, 1] (bd f188))] ⟨[vL x3, vL x4, dD, dD, dD, dD, dD, dD, dD, dD, dD, dD, vI i5, vI i6] ++ a7W 12, []⟩
theorem l4_eq : l4 (k + 1) x3 x4 i5 i6 = if (decide (i6 < i5)) = true then if 0 ≤ i6 ∧ i6 < (x3.length : Int) then if 0 ≤ i6 ∧ i6 < (x4.length : Int) then if ((x3.getD i6.toNat 0 : Int) != (x4.getD i6.toNat 0 : Int)) = true then some ((false, ()), ()) else l4 k x3 x4 i5 (IntKind.i64.wrap (i6 + 1)) else none else none else some ((true, ()), ()) := by kernel_rfl
variable (s1_1 s2_2 : LI)
noncomputable def T : OB := if ((s1_1.length : Int) != (s2_2.length : Int)) = true then some ((false, ()), ()) else l4 k s1_1 s2_2 (s1_1.length : Int) (0 : Int)
theorem of {r} (h : Ev (fun k => T k s1_1 s2_2) r) : F (s1_1, s2_2, ()) = some r := Ev.run (fun k => by kernel_rfl) h
theorem S : a2Z prog ⟨188, sig, F⟩ := sound_k (res := [.tmp 4]) func188 (cok nM)
noncomputable def cloG (y : Unit) (d : LI × LI × Unit) : Option (Bool × Unit) := (F (a8s [] [(false, tL), (false, tL)] d y)).map (·.1)
noncomputable def clo : Clo := ⟨188, ⟨[(false, tL), (false, tL)], [(.val false, .bool, .deep)]⟩, [], cloG⟩
theorem cloS : a4i prog clo := sound_clo (s := ⟨[(false, tL), (false, tL)], [(.val false, .bool, .deep)]⟩) (caps := []) rfl S
end Ab9
namespace Ad6
noncomputable def sig : Sig := ⟨[pQ], [oC]⟩
noncomputable def cfg : Cfg := cf ⟨a2H tabl, [⟨185, Al8.sig, Al8.F⟩, ⟨186, Aq9.sig, Aq9.F⟩, ⟨187, Aq7.sig, Aq7.F⟩], [Ac8.clo, Ab9.clo], [], [], []⟩
noncomputable def fin := finK cfg.c sig [.cell 2 31]
noncomputable def F (d : LL × Unit) : OQ := anyK (a8N cfg fin (bd f151) (a5B sig.ps d 11))
variable (list_1 : LL)
noncomputable def T : OQ := (Al8.F (list_1, ())).bind fun r2 => (Aq9.F (r2.1.1, Ac8.cloG (()), ())).bind fun r3 => (Aq7.F (r3.2.1, Ab9.cloG (()), ())).bind fun r4 => some ((r4.1.1, ()), ())
theorem eq : F (list_1, ()) = T list_1 := eq_any fun k => by kernel_rfl
theorem S : a2Z prog ⟨151, sig, F⟩ := sound_k (res := [.cell 2 31]) func151 (⟨nM, mixed_ok, tab_ok tab_good, cM ⟨Al8.S, cM ⟨Aq9.S, cM ⟨Aq7.S, nM⟩⟩⟩, cM ⟨Ac8.cloS, cM ⟨Ab9.cloS, nM⟩⟩, nM⟩)
end Ad6
namespace Ag8
noncomputable def sig : Sig := ⟨[pQ], [oL]⟩
noncomputable def cfg : Cfg := cl (⟨a2H tabl, [], [], [], [(195, tI)], []⟩) fun id => match id with | 3 => ([0, 3, 9, 10, 11], []) | 11 => ([6, 25, 26, 27], [24]) | _ => ([], [])
noncomputable def fin := finK cfg.c sig [.tmp 2]
noncomputable def F (d : LL × Unit) : OL := anyK (a8N cfg fin (bd f168) (a5B sig.ps d 36))
variable (k : Nat) (x2 : LL) (i3 : Int) (x4 : LL) (i5 i6 : Int)
noncomputable def l3 : OL := Vm.runT cfg fin k [.inLoop (sub [1, 1, 0, 1, 0, 0] (bd f168)), .inBlock 0, .code (sub [1, 1, 1] (bd f168))] ⟨[vQ x2, dD, dD, vI i3, dD, dD, dD, dD, dD, vQ x4, vI i5, vI i6] ++ a7W 24, []⟩
variable (x7 : LL) (i8 i9 : Int) (x10 : LI)
noncomputable def l11 : OL := Vm.runT cfg fin k [.inLoop (sub [1, 1, 1, 1, 0, 1, 0, 0] (bd f168)), .inBlock 2, .code (sub [1, 1, 1, 1, 1] (bd f168))] ⟨[dD, dD, dD, dD, dD, dD, .view 24 (.root 0) 1 false, dD, dD, dD, dD, dD, dD, dD, dD, dD, dD, dD, dD, dD, dD, dD, dD, dD, dD, vQ x7, vI i8, vI i9] ++ a7W 8, [(24, ⟨false, [dL x10]⟩)]⟩
theorem l3_eq : l3 (k + 1) x2 i3 x4 i5 i6 = if (decide (i6 < i5)) = true then if 0 ≤ i6 ∧ i6 < (x4.length : Int) then if (decide ((IntKind.i64.wrap (i3 + ((x4.getD i6.toNat ([] : LI)).length : Int))) < 0)) = true then none else l3 k x2 (IntKind.i64.wrap (i3 + ((x4.getD i6.toNat ([] : LI)).length : Int))) x4 i5 (IntKind.i64.wrap (i6 + 1)) else none else if 0 ≤ i3 ∧ i3 ≤ (bigN : Int) then l11 k x2 (x2.length : Int) (0 : Int) ([] : LI) else none := by kernel_rfl
theorem l11_eq : l11 (k + 1) x7 i8 i9 x10 = if (decide (i9 < i8)) = true then if 0 ≤ i9 ∧ i9 < (x7.length : Int) then if x10.length + (x7.getD i9.toNat ([] : LI)).length ≤ bigA then l11 k x7 i8 (IntKind.i64.wrap (i9 + 1)) (x10 ++ (x7.getD i9.toNat ([] : LI))) else none else none else some ((x10, ()), ()) := by kernel_rfl
variable (slices_1 : LL)
noncomputable def T : OL := l3 k slices_1 (0 : Int) slices_1 (slices_1.length : Int) (0 : Int)
theorem of {r} (h : Ev (fun k => T k slices_1) r) : F (slices_1, ()) = some r := Ev.run (fun k => by kernel_rfl) h
theorem S : a2Z prog ⟨168, sig, F⟩ := sound_k (res := [.tmp 2]) func168 (⟨nM, mixed_ok, tab_ok tab_good, nM, nM, cM ⟨slices_Grow_Lint64_int64.growOK, nM⟩⟩)
end Ag8
namespace Ae0
noncomputable def sig : Sig := ⟨[pL], [oQ]⟩
noncomputable def cfg : Cfg := cl (cx [⟨168, Ag8.sig, Ag8.F⟩]) fun id => match id with | 3 => ([0, 3, 6, 7], [12]) | _ => ([], [])
noncomputable def fin := finK cfg.c sig [.tmp 2]
noncomputable def F (d : LI × Unit) : OQ := anyK (a8N cfg fin (bd f132) (a5B sig.ps d 27))
variable (k : Nat) (x2 : LI) (i3 i4 : Int) (x5 : LL)
noncomputable def l3 : OQ := Vm.runT cfg fin k [.inLoop (sub [1, 1, 0, 1, 0, 0] (bd f132)), .inBlock 0, .code (sub [1, 1, 1] (bd f132))] ⟨[vL x2, dD, dD, .view 12 (.root 0) 1 false, dD, dD, vI i3, vI i4] ++ a7W 19, [(12, ⟨false, [dQ x5]⟩)]⟩
theorem l3_eq : l3 (k + 1) x2 i3 i4 x5 = if (decide (i4 < i3)) = true then if (decide ((x2.length : Int) > 1)) = true then if 0 ≤ (0 : Int) ∧ (0 : Int) ≤ i4 ∧ i4 ≤ (x2.length : Int) then if 0 ≤ (IntKind.i64.wrap (i4 + 1)) ∧ (IntKind.i64.wrap (i4 + 1)) ≤ (x2.length : Int) ∧ (x2.length : Int) ≤ (x2.length : Int) then (Ag8.F ([cutL x2 (0 : Int) i4, cutL x2 (IntKind.i64.wrap (i4 + 1)) (x2.length : Int)], ())).bind fun r6 => if x5.length + [r6.1.1].length ≤ bigA then l3 k x2 i3 (IntKind.i64.wrap (i4 + 1)) (x5 ++ [r6.1.1]) else none else none else none else l3 k x2 i3 (IntKind.i64.wrap (i4 + 1)) x5 else some ((x5, ()), ()) := by kernel_rfl
variable (s_1 : LI)
noncomputable def T : OQ := l3 k s_1 (s_1.length : Int) (0 : Int) ([])
theorem of {r} (h : Ev (fun k => T k s_1) r) : F (s_1, ()) = some r := Ev.run (fun k => by kernel_rfl) h
theorem S : a2Z prog ⟨132, sig, F⟩ := sound_k (res := [.tmp 2]) func132 (cok (cM ⟨Ag8.S, nM⟩))
end Ae0
namespace Ab3
noncomputable def sig : Sig := ⟨[pC, pI], [oL]⟩
noncomputable def cfg : Cfg := cl (cx [⟨57, Aa1.sig, Aa1.F⟩, ⟨132, Ae0.sig, Ae0.F⟩]) fun id => match id with | 3 => ([2, 5, 13, 14, 15], [8, 20, 52]) | _ => ([], [])
noncomputable def fin := finK cfg.c sig [.tmp 4]
noncomputable def F (d : LL × Int × Unit) : OL := anyK (a8N cfg fin (bd f107) (a5B sig.ps d 27))
variable (k : Nat) (i4 i5 : Int) (x6 : LL) (x7 : LI) (x8 : LL)
noncomputable def l3 : OL := Vm.runT cfg fin k [.inLoop (sub [1, 1, 0, 1, 0, 0] (bd f107)), .inBlock 0, .code (sub [1, 1, 1] (bd f107))] ⟨[dD, dD, .ref 8 (.root 0), dD, dD, .view 20 (.root 0) 1 false, dD, dD, dD, dD, dD, dD, dD, .view 52 (.root 0) 1 false, vI i4, vI i5] ++ a7W 11, [(8, ⟨true, [cQ x6]⟩), (20, ⟨false, [dL x7]⟩), (52, ⟨false, [dQ x8]⟩)]⟩
theorem l3_eq : l3 (k + 1) i4 i5 x6 x7 x8 = if (decide (i5 < i4)) = true then if 0 ≤ i5 ∧ i5 < (x8.length : Int) then (Aa1.F (x6, x8.getD i5.toNat ([] : LI), ())).bind fun r9 => if x7.length + [r9.1.1].length ≤ bigA then l3 k i4 (IntKind.i64.wrap (i5 + 1)) x6 (x7 ++ [r9.1.1]) x8 else none else none else some ((x7, ()), ()) := by kernel_rfl
variable (c_1 : LL) (k_2 : Int)
noncomputable def T : OL := if 0 ≤ k_2 ∧ k_2 < (c_1.length : Int) then (Ae0.F (c_1.getD k_2.toNat ([] : LI), ())).bind fun r3 => l3 k (r3.1.1.length : Int) (0 : Int) c_1 ([]) r3.1.1 else none
theorem of {r} (h : Ev (fun k => T k c_1 k_2) r) : F (c_1, k_2, ()) = some r := Ev.run (fun k => by kernel_rfl) h
theorem S : a2Z prog ⟨107, sig, F⟩ := sound_k (res := [.tmp 4]) func107 (cok (cM ⟨Aa1.S, cM ⟨Ae0.S, nM⟩⟩))
end Ab3
namespace As1
noncomputable def sig : Sig := ⟨[pQ], [oI]⟩
noncomputable def cfg : Cfg := cf (cx [])
noncomputable def fin := finK cfg.c sig [.tmp 2]
noncomputable def F (d : LL × Unit) : OI := anyK (a8N cfg fin (bd f191) (a5B sig.ps d 5))
variable (list_1 : LL)
noncomputable def T : OI := some (((list_1.length : Int), ()), ())
theorem eq : F (list_1, ()) = T list_1 := eq_any fun k => by kernel_rfl
theorem S : a2Z prog ⟨191, sig, F⟩ := sound_k (res := [.tmp 2]) func191 (cok nM)
end As1
namespace Ad9
noncomputable def sig : Sig := ⟨[pC], [(.val false, (.sl TEdge), .deep)]⟩
noncomputable def cfg : Cfg := cl (cx [⟨107, Ab3.sig, Ab3.F⟩, ⟨191, As1.sig, As1.F⟩]) fun id => match id with | 3 => ([1, 3, 9, 10], [4, 12]) | 6 => ([1, 3, 4, 9, 10, 15, 16, 17], [4, 12, 60]) | _ => ([], [])
noncomputable def fin := finK cfg.c sig [.tmp 2]
noncomputable def F (d : LL × Unit) : Option ((List (Int × Int × Int) × Unit) × (Unit)) := anyK (a8N cfg fin (bd f160) (a5B sig.ps d 32))
variable (k : Nat) (i3 i4 : Int) (x5 : LL) (x6 : List (Int × Int × Int))
noncomputable def l3 : Option ((List (Int × Int × Int) × Unit) × (Unit)) := Vm.runT cfg fin k [.inLoop (sub [1, 1, 0, 1, 0, 0] (bd f160)), .inBlock 0, .code (sub [1, 1, 1] (bd f160))] ⟨[dD, .ref 4 (.root 0), dD, .view 12 (.root 0) 1 false, dD, dD, dD, dD, dD, vI i3, vI i4] ++ a7W 21, [(4, ⟨true, [cQ x5]⟩), (12, ⟨false, [⟨(.sl TEdge), .deep, x6⟩]⟩)]⟩
variable (i8 i9 i10 i11 i12 : Int) (x13 : LL) (x14 : List (Int × Int × Int)) (x15 : LI)
noncomputable def l6 : Option ((List (Int × Int × Int) × Unit) × (Unit)) := Vm.runT cfg fin k [.inLoop (sub [1, 1, 0, 1, 0, 0, 1, 1, 0, 0, 1, 1, 0, 0] (bd f160)), .inBlock 2, .inBlock 1, .code (sub [1, 1, 0, 1, 0, 0, 1, 1, 1] (bd f160)), .inLoop (sub [1, 1, 0, 1, 0, 0] (bd f160)), .inBlock 0, .code (sub [1, 1, 1] (bd f160))] ⟨[dD, .ref 4 (.root 0), dD, .view 12 (.root 0) 1 false, vI i8, dD, dD, dD, dD, vI i9, vI i10, dD, dD, dD, dD, .view 60 (.root 0) 1 false, vI i11, vI i12] ++ a7W 14, [(4, ⟨true, [cQ x13]⟩), (12, ⟨false, [⟨(.sl TEdge), .deep, x14⟩]⟩), (60, ⟨false, [dL x15]⟩)]⟩
theorem l3_eq : l3 (k + 1) i3 i4 x5 x6 = if (decide (i4 < i3)) = true then (Ab3.F (x5, i4, ())).bind fun r7 => l6 k i4 i3 i4 (r7.1.1.length : Int) (0 : Int) x5 x6 r7.1.1 else some ((x6, ()), ()) := by kernel_rfl
theorem l6_eq : l6 (k + 1) i8 i9 i10 i11 i12 x13 x14 x15 = if (decide (i12 < i11)) = true then if 0 ≤ i12 ∧ i12 < (x15.length : Int) then if x14.length + ([(i8, (i12, (x15.getD i12.toNat 0 : Int)))] : List (Int × Int × Int)).length ≤ bigA then l6 k i8 i9 i10 i11 (IntKind.i64.wrap (i12 + 1)) x13 (x14 ++ [(i8, (i12, (x15.getD i12.toNat 0 : Int)))]) x15 else none else none else l3 k i9 (IntKind.i64.wrap (i10 + 1)) x13 x14 := by kernel_rfl
variable (c_1 : LL)
noncomputable def T : Option ((List (Int × Int × Int) × Unit) × (Unit)) := (As1.F (c_1, ())).bind fun r2 => l3 k r2.1.1 (0 : Int) c_1 ([])
theorem of {r} (h : Ev (fun k => T k c_1) r) : F (c_1, ()) = some r := Ev.run (fun k => by kernel_rfl) h
theorem S : a2Z prog ⟨160, sig, F⟩ := sound_k (res := [.tmp 2]) func160 (cok (cM ⟨Ab3.S, cM ⟨As1.S, nM⟩⟩))
end Ad9
namespace Al9
noncomputable def sig : Sig := ⟨[pM], [oM]⟩
noncomputable def cfg : Cfg := cf (cx [⟨98, Ab6.sig, Ab6.F⟩])
noncomputable def fin := finK cfg.c sig [.cell 2 86]
noncomputable def F (d : MX × Unit) : OM := anyK (a8N cfg fin (bd f172) (a5B sig.ps d 8))
variable (m_1 m_2 m_3 : Int) (m_4 : LI)
noncomputable def T : OM := (Ab6.F (m_4, ())).bind fun r5 => some (((m_1, (m_2, (m_3, r5.1.1))), ()), ())
theorem eq : F ((m_1, (m_2, (m_3, m_4))), ()) = T m_1 m_2 m_3 m_4 := eq_any fun k => by kernel_rfl
theorem S : a2Z prog ⟨172, sig, F⟩ := sound_k (res := [.cell 2 86]) func172 (cok (cM ⟨Ab6.S, nM⟩))
end Al9
namespace Aj3
noncomputable def sig : Sig := ⟨[pC, pI, pL, .fnx ⟨[(true, TEdge)], [oM]⟩], [oS]⟩
noncomputable def cfg : Cfg := cl (cx [⟨98, Ab6.sig, Ab6.F⟩, ⟨151, Ad6.sig, Ad6.F⟩, ⟨160, Ad9.sig, Ad9.F⟩, ⟨172, Al9.sig, Al9.F⟩]) fun id => match id with | 3 => ([3, 8, 9, 20, 21, 22], [32, 36, 80]) | _ => ([], [])
noncomputable def fin := finK cfg.c sig [.cell 8 34]
noncomputable def F (d : LL × Int × LI × (((Int × Int × Int) × Unit) → Option (MX × Unit)) × Unit) : OS := anyK (a8N cfg fin (bd f136) (a5B sig.ps d 37))
variable (k : Nat) (f8 : ((Int × Int × Int) × Unit) → Option (MX × Unit)) (i9 i10 : Int) (x11 : LL) (i12 : Int) (x13 : LI) (x14 : LM) (x15 : LL) (i16 : Int) (x17 : LI) (x18 : LM) (x19 : List (Int × Int × Int))
noncomputable def l3 : OS := Vm.runT cfg fin k [.inLoop (sub [1, 1, 0, 1, 0, 0] (bd f136)), .inBlock 0, .code (sub [1, 1, 1] (bd f136))] ⟨[dD, dD, dD, .fnx ⟨[(true, TEdge)], [(.val true, TMatrix, .deep)]⟩ f8, dD, dD, dD, dD, .ref 32 (.root 0), .ref 36 (.root 0), dD, dD, dD, dD, dD, dD, dD, dD, dD, dD, .view 80 (.root 0) 1 false, vI i9, vI i10] ++ a7W 14, [(32, ⟨true, [dQ x11, cI i12, dL x13, ⟨(.sl TMatrix), .deep, x14⟩]⟩), (36, ⟨true, [dQ x15, cI i16, dL x17, ⟨(.sl TMatrix), .deep, x18⟩]⟩), (80, ⟨false, [⟨(.sl TEdge), .deep, x19⟩]⟩)]⟩
theorem l3_eq : l3 (k + 1) f8 i9 i10 x11 i12 x13 x14 x15 i16 x17 x18 x19 = if (decide (i10 < i9)) = true then if 0 ≤ i10 ∧ i10 < (x19.length : Int) then (f8 (x19.getD i10.toNat (0, 0, 0), ())).bind fun r20 => (Al9.F (r20.1, ())).bind fun r21 => if x18.length + [r21.1.1].length ≤ bigA then l3 k f8 i9 (IntKind.i64.wrap (i10 + 1)) x11 i12 x13 x14 x15 i16 x17 (x18 ++ [r21.1.1]) x19 else none else none else some (((x15, (i16, (x17, x18))), ()), ()) := by kernel_rfl
variable (c_1 : LL) (p_2 : Int) (stalks_3 : LI) (f_4 : ((Int × Int × Int) × Unit) → Option (MX × Unit))
noncomputable def T : OS := (Ad6.F (c_1, ())).bind fun r5 => (Ab6.F (stalks_3, ())).bind fun r6 => (Ad9.F (c_1, ())).bind fun r7 => l3 k f_4 (r7.1.1.length : Int) (0 : Int) ([]) 0 ([]) ([]) r5.1.1 p_2 r6.1.1 ([]) r7.1.1
theorem of {r} (h : Ev (fun k => T k c_1 p_2 stalks_3 f_4) r) : F (c_1, p_2, stalks_3, f_4, ()) = some r := Ev.run (fun k => by kernel_rfl) h
theorem S : a2Z prog ⟨136, sig, F⟩ := sound_k (res := [.cell 8 34]) func136 (cok (cM ⟨Ab6.S, cM ⟨Ad6.S, cM ⟨Ad9.S, cM ⟨Al9.S, nM⟩⟩⟩⟩))
end Aj3
namespace Ab4
noncomputable def sig : Sig := ⟨[pL], [oI]⟩
noncomputable def cfg : Cfg := cf (cx [])
noncomputable def fin := finK cfg.c sig [.tmp 2]
noncomputable def F (d : LI × Unit) : OI := anyK (a8N cfg fin (bd f111) (a5B sig.ps d 5))
variable (list_1 : LI)
noncomputable def T : OI := some (((list_1.length : Int), ()), ())
theorem eq : F (list_1, ()) = T list_1 := eq_any fun k => by kernel_rfl
theorem S : a2Z prog ⟨111, sig, F⟩ := sound_k (res := [.tmp 2]) func111 (cok nM)
end Ab4
namespace Ai0
noncomputable def sig : Sig := ⟨[pS, pI], [oI]⟩
noncomputable def cfg : Cfg := cl (cx [⟨111, Ab4.sig, Ab4.F⟩]) fun id => match id with | 3 => ([5, 12, 13, 14], []) | _ => ([], [])
noncomputable def fin := finK cfg.c sig [.tmp 4]
noncomputable def F (d : SF × Int × Unit) : OI := anyK (a8N cfg fin (bd f154) (a5B sig.ps d 27))
variable (k : Nat) (i6 : Int) (x7 : LL) (i8 i9 : Int)
noncomputable def l3 : OI := Vm.runT cfg fin k [.inLoop (sub [1, 1, 0, 1, 0, 0] (bd f154)), .inBlock 0, .code (sub [1, 1, 1] (bd f154))] ⟨[dD, dD, dD, dD, dD, vI i6, dD, dD, dD, dD, dD, dD, vQ x7, vI i8, vI i9] ++ a7W 12, []⟩
theorem l3_eq : l3 (k + 1) i6 x7 i8 i9 = if (decide (i9 < i8)) = true then if 0 ≤ i9 ∧ i9 < (x7.length : Int) then if (decide (((x7.getD i9.toNat ([] : LI)).length : Int) > 1)) = true then (Ab4.F (x7.getD i9.toNat ([] : LI), ())).bind fun r10 => l3 k (IntKind.i64.wrap (i6 + r10.1.1)) x7 i8 (IntKind.i64.wrap (i9 + 1)) else l3 k i6 x7 i8 (IntKind.i64.wrap (i9 + 1)) else none else some ((i6, ()), ()) := by kernel_rfl
noncomputable def T (k : Nat) (s_1 : LL) (s_2 : Int) (s_3 : LI) (s_4 : LM) (simplex_5 : Int) : OI := if 0 ≤ (0 : Int) ∧ (0 : Int) ≤ simplex_5 ∧ simplex_5 ≤ (s_1.length : Int) then l3 k (0 : Int) (cutL s_1 (0 : Int) simplex_5) ((cutL s_1 (0 : Int) simplex_5).length : Int) (0 : Int) else none
theorem of (s_1 : LL) (s_2 : Int) (s_3 : LI) (s_4 : LM) (simplex_5 : Int) {r} (h : Ev (fun k => T k s_1 s_2 s_3 s_4 simplex_5) r) : F ((s_1, (s_2, (s_3, s_4))), simplex_5, ()) = some r := Ev.run (fun k => by kernel_rfl) h
theorem S : a2Z prog ⟨154, sig, F⟩ := sound_k (res := [.tmp 4]) func154 (cok (cM ⟨Ab4.S, nM⟩))
end Ai0
namespace Ab7
noncomputable def sig : Sig := ⟨[pS, pI, pI], [(.val true, TMatrix, .sh)]⟩
noncomputable def cfg : Cfg := cf (cx [⟨154, Ai0.sig, Ai0.F⟩])
noncomputable def fin := finK cfg.c sig [.cell 6 86]
noncomputable def F (d : SF × Int × Int × Unit) : OM := anyK (a8N cfg fin (bd f108) (a5B sig.ps d 16))
variable (s_1 : LL) (s_2 : Int) (s_3 : LI) (s_4 : LM) (simplex_5 place_6 : Int)
noncomputable def T : OM := (Ai0.F ((s_1, (s_2, (s_3, s_4))), simplex_5, ())).bind fun r7 => if 0 ≤ (IntKind.i64.wrap (r7.1.1 + place_6)) ∧ (IntKind.i64.wrap (r7.1.1 + place_6)) < (s_4.length : Int) then let y8 : Int := (s_4.getD (IntKind.i64.wrap (r7.1.1 + place_6)).toNat (0, 0, 0, ([] : LI))).1; let y9 : Int := ((s_4.getD (IntKind.i64.wrap (r7.1.1 + place_6)).toNat (0, 0, 0, ([] : LI))).2).1; let y10 : Int := (((s_4.getD (IntKind.i64.wrap (r7.1.1 + place_6)).toNat (0, 0, 0, ([] : LI))).2).2).1; let y11 : LI := (((s_4.getD (IntKind.i64.wrap (r7.1.1 + place_6)).toNat (0, 0, 0, ([] : LI))).2).2).2; some (((y8, (y9, (y10, y11))), ()), ()) else none
theorem eq : F ((s_1, (s_2, (s_3, s_4))), simplex_5, place_6, ()) = T s_1 s_2 s_3 s_4 simplex_5 place_6 := eq_any fun k => by kernel_rfl
theorem S : a2Z prog ⟨108, sig, F⟩ := sound_k (res := [.cell 6 86]) func108 (cok (cM ⟨Ai0.S, nM⟩))
end Ab7
namespace Ag9
noncomputable def sig : Sig := ⟨[pL, .fnx ⟨[(false, tI)], [oB]⟩], [oI]⟩
noncomputable def cfg : Cfg := cl (cx []) fun id => match id with | 2 => ([0, 1, 7, 8], []) | _ => ([], [])
noncomputable def fin := finK cfg.c sig [.tmp 4]
noncomputable def F (d : LI × ((Int × Unit) → Option (Bool × Unit)) × Unit) : OI := anyK (a8N cfg fin (bd f144) (a5B sig.ps d 19))
variable (k : Nat) (x3 : LI) (f4 : (Int × Unit) → Option (Bool × Unit)) (i5 i6 : Int)
noncomputable def l2 : OI := Vm.runT cfg fin k [.inLoop (sub [1, 0, 1, 0, 0] (bd f144)), .inBlock 0, .code (sub [1, 1] (bd f144))] ⟨[vL x3, .fnx ⟨[(false, tI)], [(.val false, .bool, .deep)]⟩ f4, dD, dD, dD, dD, dD, vI i5, vI i6] ++ a7W 10, []⟩
theorem l2_eq : l2 (k + 1) x3 f4 i5 i6 = if (decide (i6 < i5)) = true then if 0 ≤ i6 ∧ i6 < (x3.length : Int) then (f4 ((x3.getD i6.toNat 0 : Int), ())).bind fun r7 => if r7.1 = true then some ((i6, ()), ()) else l2 k x3 f4 i5 (IntKind.i64.wrap (i6 + 1)) else none else some (((-1 : Int), ()), ()) := by kernel_rfl
variable (s_1 : LI) (f_2 : (Int × Unit) → Option (Bool × Unit))
noncomputable def T : OI := l2 k s_1 f_2 (s_1.length : Int) (0 : Int)
theorem of {r} (h : Ev (fun k => T k s_1 f_2) r) : F (s_1, f_2, ()) = some r := Ev.run (fun k => by kernel_rfl) h
theorem S : a2Z prog ⟨144, sig, F⟩ := sound_k (res := [.tmp 4]) func144 (cok nM)
end Ag9
namespace Ab8
noncomputable def sig : Sig := ⟨[pI, pI, pI, .fnx ⟨[(false, tI), (false, tI)], [oI]⟩], [oM]⟩
noncomputable def cfg : Cfg := cl (cx []) fun id => match id with | 3 => ([2, 3, 8, 9, 16, 17], [32, 36]) | 6 => ([2, 3, 8, 9, 10, 16, 17, 20, 21], [32, 36]) | _ => ([], [])
noncomputable def fin := finK cfg.c sig [.cell 8 86]
noncomputable def F (d : Int × Int × Int × ((Int × Int × Unit) → Option (Int × Unit)) × Unit) : OM := anyK (a8N cfg fin (bd f152) (a5B sig.ps d 36))
variable (k : Nat) (i5 : Int) (f6 : (Int × Int × Unit) → Option (Int × Unit)) (i7 i8 i9 i10 i11 : Int) (x12 : LI) (i13 i14 i15 : Int) (x16 : LI)
noncomputable def l3 : OM := Vm.runT cfg fin k [.inLoop (sub [1, 1, 0, 1, 0, 0] (bd f152)), .inBlock 0, .code (sub [1, 1, 1] (bd f152))] ⟨[dD, dD, vI i5, .fnx ⟨[(false, tI), (false, tI)], [(.val false, tI, .deep)]⟩ f6, dD, dD, dD, dD, .ref 32 (.root 0), .ref 36 (.root 0), dD, dD, dD, dD, dD, dD, vI i7, vI i8] ++ a7W 18, [(32, ⟨true, [cI i9, cI i10, cI i11, dL x12]⟩), (36, ⟨true, [cI i13, cI i14, cI i15, dL x16]⟩)]⟩
variable (i17 : Int) (f18 : (Int × Int × Unit) → Option (Int × Unit)) (i19 i20 i21 i22 i23 i24 i25 i26 : Int) (x27 : LI) (i28 i29 i30 : Int) (x31 : LI)
noncomputable def l6 : OM := Vm.runT cfg fin k [.inLoop (sub [1, 1, 0, 1, 0, 0, 1, 1, 0, 0, 1, 1, 0, 0] (bd f152)), .inBlock 2, .inBlock 1, .code (sub [1, 1, 0, 1, 0, 0, 1, 1, 1] (bd f152)), .inLoop (sub [1, 1, 0, 1, 0, 0] (bd f152)), .inBlock 0, .code (sub [1, 1, 1] (bd f152))] ⟨[dD, dD, vI i17, .fnx ⟨[(false, tI), (false, tI)], [(.val false, tI, .deep)]⟩ f18, dD, dD, dD, dD, .ref 32 (.root 0), .ref 36 (.root 0), vI i19, dD, dD, dD, dD, dD, vI i20, vI i21, dD, dD, vI i22, vI i23] ++ a7W 14, [(32, ⟨true, [cI i24, cI i25, cI i26, dL x27]⟩), (36, ⟨true, [cI i28, cI i29, cI i30, dL x31]⟩)]⟩
theorem l3_eq : l3 (k + 1) i5 f6 i7 i8 i9 i10 i11 x12 i13 i14 i15 x16 = if (decide (i8 < i7)) = true then l6 k i5 f6 i8 i7 i8 i5 (0 : Int) i9 i10 i11 x12 i13 i14 i15 x16 else some (((i13, (i14, (i15, x16))), ()), ()) := by kernel_rfl
theorem l6_eq : l6 (k + 1) i17 f18 i19 i20 i21 i22 i23 i24 i25 i26 x27 i28 i29 i30 x31 = if (decide (i23 < i22)) = true then (f18 (i19, i23, ())).bind fun r32 => if x31.length + [r32.1].length ≤ bigA then l6 k i17 f18 i19 i20 i21 i22 (IntKind.i64.wrap (i23 + 1)) i24 i25 i26 x27 i28 i29 i30 (x31 ++ [r32.1]) else none else l3 k i17 f18 i20 (IntKind.i64.wrap (i21 + 1)) i24 i25 i26 x27 i28 i29 i30 x31 := by kernel_rfl
variable (p_1 rows_2 columns_3 : Int) (f_4 : (Int × Int × Unit) → Option (Int × Unit))
noncomputable def T : OM := l3 k columns_3 f_4 rows_2 (0 : Int) 0 0 0 ([]) p_1 rows_2 columns_3 ([])
theorem of {r} (h : Ev (fun k => T k p_1 rows_2 columns_3 f_4) r) : F (p_1, rows_2, columns_3, f_4, ()) = some r := Ev.run (fun k => by kernel_rfl) h
theorem S : a2Z prog ⟨152, sig, F⟩ := sound_k (res := [.cell 8 86]) func152 (cok nM)
end Ab8
namespace Ae5
noncomputable def sig : Sig := ⟨[pM, pI], [(.val false, tL, .sh)]⟩
noncomputable def cfg : Cfg := cf (cx [])
noncomputable def fin := finK cfg.c sig [.tmp 4]
noncomputable def F (d : MX × Int × Unit) : OL := anyK (a8N cfg fin (bd f104) (a5B sig.ps d 17))
noncomputable def T (m_1 m_2 m_3 : Int) (m_4 : LI) (i_5 : Int) : OL := if 0 ≤ (IntKind.i64.wrap (i_5 * m_3)) ∧ (IntKind.i64.wrap (i_5 * m_3)) ≤ (IntKind.i64.wrap ((IntKind.i64.wrap (i_5 + 1)) * m_3)) ∧ (IntKind.i64.wrap ((IntKind.i64.wrap (i_5 + 1)) * m_3)) ≤ (m_4.length : Int) then some ((cutL m_4 (IntKind.i64.wrap (i_5 * m_3)) (IntKind.i64.wrap ((IntKind.i64.wrap (i_5 + 1)) * m_3)), ()), ()) else none
theorem eq (m_1 m_2 m_3 : Int) (m_4 : LI) (i_5 : Int) : F ((m_1, (m_2, (m_3, m_4))), i_5, ()) = T m_1 m_2 m_3 m_4 i_5 := eq_any fun k => by kernel_rfl
theorem S : a2Z prog ⟨104, sig, F⟩ := sound_k (res := [.tmp 4]) func104 (cok nM)
end Ae5
namespace Am1
noncomputable def sig : Sig := ⟨[pM], [oQ]⟩
noncomputable def cfg : Cfg := cl (cx [⟨98, Ab6.sig, Ab6.F⟩, ⟨104, Ae5.sig, Ae5.F⟩]) fun id => match id with | 3 => ([1, 3, 6, 7], [4, 12]) | _ => ([], [])
noncomputable def fin := finK cfg.c sig [.tmp 2]
noncomputable def F (d : MX × Unit) : OQ := anyK (a8N cfg fin (bd f210) (a5B sig.ps d 19))
variable (k : Nat) (i5 i6 i7 i8 i9 : Int) (x10 : LI) (x11 : LL)
noncomputable def l3 : OQ := Vm.runT cfg fin k [.inLoop (sub [1, 1, 0, 1, 0, 0] (bd f210)), .inBlock 0, .code (sub [1, 1, 1] (bd f210))] ⟨[dD, .ref 4 (.root 0), dD, .view 12 (.root 0) 1 false, dD, dD, vI i5, vI i6] ++ a7W 11, [(4, ⟨true, [cI i7, cI i8, cI i9, cL x10]⟩), (12, ⟨false, [dQ x11]⟩)]⟩
theorem l3_eq : l3 (k + 1) i5 i6 i7 i8 i9 x10 x11 = if (decide (i6 < i5)) = true then (Ae5.F ((i7, (i8, (i9, x10))), i6, ())).bind fun r12 => (Ab6.F (r12.1.1, ())).bind fun r13 => if x11.length + [r13.1.1].length ≤ bigA then l3 k i5 (IntKind.i64.wrap (i6 + 1)) i7 i8 i9 x10 (x11 ++ [r13.1.1]) else none else some ((x11, ()), ()) := by kernel_rfl
variable (m_1 m_2 m_3 : Int) (m_4 : LI)
noncomputable def T : OQ := l3 k m_2 (0 : Int) m_1 m_2 m_3 m_4 ([])
theorem of {r} (h : Ev (fun k => T k m_1 m_2 m_3 m_4) r) : F ((m_1, (m_2, (m_3, m_4))), ()) = some r := Ev.run (fun k => by kernel_rfl) h
theorem S : a2Z prog ⟨210, sig, F⟩ := sound_k (res := [.tmp 2]) func210 (cok (cM ⟨Ab6.S, cM ⟨Ae5.S, nM⟩⟩))
end Am1
namespace Aj1
noncomputable def sig : Sig := ⟨[pM, pI, pI], [oI]⟩
noncomputable def cfg : Cfg := cf (cx [])
noncomputable def fin := finK cfg.c sig [.tmp 6]
noncomputable def F (d : MX × Int × Int × Unit) : OI := anyK (a8N cfg fin (bd f109) (a5B sig.ps d 17))
noncomputable def T (m_1 m_2 m_3 : Int) (m_4 : LI) (i_5 j_6 : Int) : OI := if 0 ≤ (IntKind.i64.wrap ((IntKind.i64.wrap (i_5 * m_3)) + j_6)) ∧ (IntKind.i64.wrap ((IntKind.i64.wrap (i_5 * m_3)) + j_6)) < (m_4.length : Int) then some (((m_4.getD (IntKind.i64.wrap ((IntKind.i64.wrap (i_5 * m_3)) + j_6)).toNat 0 : Int), ()), ()) else none
theorem eq (m_1 m_2 m_3 : Int) (m_4 : LI) (i_5 j_6 : Int) : F ((m_1, (m_2, (m_3, m_4))), i_5, j_6, ()) = T m_1 m_2 m_3 m_4 i_5 j_6 := eq_any fun k => by kernel_rfl
theorem S : a2Z prog ⟨109, sig, F⟩ := sound_k (res := [.tmp 6]) func109 (cok nM)
end Aj1
namespace As2
noncomputable def sig : Sig := ⟨[pI, pI, qM], [oI]⟩
noncomputable def cfg : Cfg := cf (cx [⟨109, Aj1.sig, Aj1.F⟩])
noncomputable def fin := finK cfg.c sig [.tmp 5]
noncomputable def F (d : Int × Int × MX × Unit) : OI := anyK (a8N cfg fin (bd f233) (a5B sig.ps d 10))
variable (i_1 j_2 a_3 a_4 a_5 : Int) (a_6 : LI)
noncomputable def T : OI := (Aj1.F ((a_3, (a_4, (a_5, a_6))), j_2, i_1, ())).bind fun r7 => some ((r7.1.1, ()), ())
theorem eq : F (i_1, j_2, (a_3, (a_4, (a_5, a_6))), ()) = T i_1 j_2 a_3 a_4 a_5 a_6 := eq_any fun k => by kernel_rfl
theorem S : a2Z prog ⟨233, sig, F⟩ := sound_k (res := [.tmp 5]) func233 (cok (cM ⟨Aj1.S, nM⟩))
noncomputable def cloG (y : MX × Unit) (d : Int × Int × Unit) : Option (Int × Unit) := (F (a8s [.rptr TMatrix] [(false, tI), (false, tI)] d y)).map (·.1)
noncomputable def clo : Clo := ⟨233, ⟨[(false, tI), (false, tI)], [(.val false, tI, .deep)]⟩, [.rptr TMatrix], cloG⟩
theorem cloS : a4i prog clo := sound_clo (s := ⟨[(false, tI), (false, tI)], [(.val false, tI, .deep)]⟩) (caps := [.rptr TMatrix]) rfl S
end As2
namespace Ap2
noncomputable def sig : Sig := ⟨[pM], [oM]⟩
noncomputable def cfg : Cfg := cf ⟨a2H tabl, [⟨152, Ab8.sig, Ab8.F⟩], [As2.clo], [], [], []⟩
noncomputable def fin := finK cfg.c sig [.cell 2 86]
noncomputable def F (d : MX × Unit) : OM := anyK (a8N cfg fin (bd f211) (a5B sig.ps d 11))
variable (m_1 m_2 m_3 : Int) (m_4 : LI)
noncomputable def T : OM := (Ab8.F (m_1, m_3, m_2, As2.cloG ((m_1, (m_2, (m_3, m_4))), ()), ())).bind fun r5 => some ((r5.1.1, ()), ())
theorem eq : F ((m_1, (m_2, (m_3, m_4))), ()) = T m_1 m_2 m_3 m_4 := eq_any fun k => by kernel_rfl
theorem S : a2Z prog ⟨211, sig, F⟩ := sound_k (res := [.cell 2 86]) func211 (⟨nM, mixed_ok, tab_ok tab_good, cM ⟨Ab8.S, nM⟩, cM ⟨As2.cloS, nM⟩, nM⟩)
end Ap2
namespace Ao7
noncomputable def sig : Sig := ⟨[pM], [oQ]⟩
noncomputable def cfg : Cfg := cf (cx [⟨210, Am1.sig, Am1.F⟩, ⟨211, Ap2.sig, Ap2.F⟩])
noncomputable def fin := finK cfg.c sig [.tmp 2]
noncomputable def F (d : MX × Unit) : OQ := anyK (a8N cfg fin (bd f193) (a5B sig.ps d 6))
variable (m_1 m_2 m_3 : Int) (m_4 : LI)
noncomputable def T : OQ := (Ap2.F ((m_1, (m_2, (m_3, m_4))), ())).bind fun r5 => (Am1.F (r5.1.1, ())).bind fun r6 => some ((r6.1.1, ()), ())
theorem eq : F ((m_1, (m_2, (m_3, m_4))), ()) = T m_1 m_2 m_3 m_4 := eq_any fun k => by kernel_rfl
theorem S : a2Z prog ⟨193, sig, F⟩ := sound_k (res := [.tmp 2]) func193 (cok (cM ⟨Am1.S, cM ⟨Ap2.S, nM⟩⟩))
end Ao7
namespace Ag0
noncomputable def sig : Sig := ⟨[pL, pL, pI], [oI]⟩
noncomputable def cfg : Cfg := cl (cx []) fun id => match id with | 3 => ([0, 1, 2, 7, 10, 11], []) | _ => ([], [])
noncomputable def fin := finK cfg.c sig [.tmp 6]
noncomputable def F (d : LI × LI × Int × Unit) : OI := anyK (a8N cfg fin (bd f103) (a5B sig.ps d 29))
variable (k : Nat) (x4 x5 : LI) (i6 i7 i8 i9 : Int)
noncomputable def l3 : OI := Vm.runT cfg fin k [.inLoop (sub [1, 1, 0, 1, 0, 0] (bd f103)), .inBlock 0, .code (sub [1, 1, 1] (bd f103))] ⟨[vL x4, vL x5, vI i6, dD, dD, dD, dD, vI i7, dD, dD, vI i8, vI i9] ++ a7W 17, []⟩
theorem l3_eq : l3 (k + 1) x4 x5 i6 i7 i8 i9 = if (decide (i9 < i8)) = true then if 0 ≤ i9 ∧ i9 < (x4.length : Int) then if 0 ≤ i9 ∧ i9 < (x5.length : Int) then if i6 = 0 then none else l3 k x4 x5 i6 ((IntKind.i64.wrap (i7 + (IntKind.i64.wrap ((x4.getD i9.toNat 0 : Int) * (x5.getD i9.toNat 0 : Int))))).tmod i6) i8 (IntKind.i64.wrap (i9 + 1)) else none else none else some ((i7, ()), ()) := by kernel_rfl
variable (a_1 b_2 : LI) (p_3 : Int)
noncomputable def T : OI := l3 k a_1 b_2 p_3 (0 : Int) (a_1.length : Int) (0 : Int)
theorem of {r} (h : Ev (fun k => T k a_1 b_2 p_3) r) : F (a_1, b_2, p_3, ()) = some r := Ev.run (fun k => by kernel_rfl) h
theorem S : a2Z prog ⟨103, sig, F⟩ := sound_k (res := [.tmp 6]) func103 (cok nM)
end Ag0
namespace As0
noncomputable def sig : Sig := ⟨[pI, pI, qM, qC], [oI]⟩
noncomputable def cfg : Cfg := cf (cx [⟨103, Ag0.sig, Ag0.F⟩, ⟨104, Ae5.sig, Ae5.F⟩])
noncomputable def fin := finK cfg.c sig [.tmp 6]
noncomputable def F (d : Int × Int × MX × LL × Unit) : OI := anyK (a8N cfg fin (bd f194) (a5B sig.ps d 17))
variable (i_1 j_2 a_3 a_4 a_5 : Int) (a_6 : LI) (a_7 : LL)
noncomputable def T : OI := (Ae5.F ((a_3, (a_4, (a_5, a_6))), i_1, ())).bind fun r8 => if 0 ≤ j_2 ∧ j_2 < (a_7.length : Int) then (Ag0.F (r8.1.1, a_7.getD j_2.toNat ([] : LI), a_3, ())).bind fun r9 => some ((r9.1.1, ()), ()) else none
theorem eq : F (i_1, j_2, (a_3, (a_4, (a_5, a_6))), a_7, ()) = T i_1 j_2 a_3 a_4 a_5 a_6 a_7 := eq_any fun k => by kernel_rfl
theorem S : a2Z prog ⟨194, sig, F⟩ := sound_k (res := [.tmp 6]) func194 (cok (cM ⟨Ag0.S, cM ⟨Ae5.S, nM⟩⟩))
noncomputable def cloG (y : MX × LL × Unit) (d : Int × Int × Unit) : Option (Int × Unit) := (F (a8s [.rptr TMatrix, .rptr tQ] [(false, tI), (false, tI)] d y)).map (·.1)
noncomputable def clo : Clo := ⟨194, ⟨[(false, tI), (false, tI)], [(.val false, tI, .deep)]⟩, [.rptr TMatrix, .rptr tQ], cloG⟩
theorem cloS : a4i prog clo := sound_clo (s := ⟨[(false, tI), (false, tI)], [(.val false, tI, .deep)]⟩) (caps := [.rptr TMatrix, .rptr tQ]) rfl S
end As0
namespace Ag3
noncomputable def sig : Sig := ⟨[pM, pM], [oM]⟩
noncomputable def cfg : Cfg := cf ⟨a2H tabl, [⟨152, Ab8.sig, Ab8.F⟩, ⟨193, Ao7.sig, Ao7.F⟩], [As0.clo], [], [], []⟩
noncomputable def fin := finK cfg.c sig [.cell 4 86]
noncomputable def F (d : MX × MX × Unit) : OM := anyK (a8N cfg fin (bd f162) (a5B sig.ps d 16))
variable (a_1 a_2 a_3 : Int) (a_4 : LI) (b_5 b_6 b_7 : Int) (b_8 : LI)
noncomputable def T : OM := (Ao7.F ((b_5, (b_6, (b_7, b_8))), ())).bind fun r9 => (Ab8.F (a_1, a_2, b_7, As0.cloG ((a_1, (a_2, (a_3, a_4))), r9.1.1, ()), ())).bind fun r10 => some ((r10.1.1, ()), ())
theorem eq : F ((a_1, (a_2, (a_3, a_4))), (b_5, (b_6, (b_7, b_8))), ()) = T a_1 a_2 a_3 a_4 b_5 b_6 b_7 b_8 := eq_any fun k => by kernel_rfl
theorem S : a2Z prog ⟨162, sig, F⟩ := sound_k (res := [.cell 4 86]) func162 (⟨nM, mixed_ok, tab_ok tab_good, cM ⟨Ab8.S, cM ⟨Ao7.S, nM⟩⟩, cM ⟨As0.cloS, nM⟩, nM⟩)
end Ag3
namespace As3
noncomputable def sig : Sig := ⟨[pI, pI], [oI]⟩
noncomputable def cfg : Cfg := cf (cx [])
noncomputable def fin := finK cfg.c sig [.tmp 4]
noncomputable def F (d : Int × Int × Unit) : OI := anyK (a8N cfg fin (bd f198) (a5B sig.ps d 8))
variable (i_1 j_2 : Int)
noncomputable def T : OI := if (i_1 == j_2) = true then some ((1, ()), ()) else some ((0, ()), ())
theorem eq : F (i_1, j_2, ()) = T i_1 j_2 := eq_any fun k => by kernel_rfl
theorem S : a2Z prog ⟨198, sig, F⟩ := sound_k (res := [.tmp 4]) func198 (cok nM)
noncomputable def cloG (y : Unit) (d : Int × Int × Unit) : Option (Int × Unit) := (F (a8s [] [(false, tI), (false, tI)] d y)).map (·.1)
noncomputable def clo : Clo := ⟨198, ⟨[(false, tI), (false, tI)], [(.val false, tI, .deep)]⟩, [], cloG⟩
theorem cloS : a4i prog clo := sound_clo (s := ⟨[(false, tI), (false, tI)], [(.val false, tI, .deep)]⟩) (caps := []) rfl S
end As3
namespace Ap4
noncomputable def sig : Sig := ⟨[pI, pI], [oM]⟩
noncomputable def cfg : Cfg := cf ⟨a2H tabl, [⟨152, Ab8.sig, Ab8.F⟩], [As3.clo], [], [], []⟩
noncomputable def fin := finK cfg.c sig [.cell 4 86]
noncomputable def F (d : Int × Int × Unit) : OM := anyK (a8N cfg fin (bd f173) (a5B sig.ps d 9))
variable (p_1 n_2 : Int)
noncomputable def T : OM := (Ab8.F (p_1, n_2, n_2, As3.cloG (()), ())).bind fun r3 => some ((r3.1.1, ()), ())
theorem eq : F (p_1, n_2, ()) = T p_1 n_2 := eq_any fun k => by kernel_rfl
theorem S : a2Z prog ⟨173, sig, F⟩ := sound_k (res := [.cell 4 86]) func173 (⟨nM, mixed_ok, tab_ok tab_good, cM ⟨Ab8.S, nM⟩, cM ⟨As3.cloS, nM⟩, nM⟩)
end Ap4
namespace Aq2
noncomputable def sig : Sig := ⟨[pL, pI], [oB]⟩
noncomputable def cfg : Cfg := cf (cx [⟨169, Ae8.sig, Ae8.F⟩])
noncomputable def fin := finK cfg.c sig [.tmp 4]
noncomputable def F (d : LI × Int × Unit) : OB := anyK (a8N cfg fin (bd f175) (a5B sig.ps d 9))
variable (s_1 : LI) (v_2 : Int)
noncomputable def T : OB := (Ae8.F (s_1, v_2, ())).bind fun r3 => some ((decide (r3.1.1 ≥ 0), ()), ())
theorem eq : F (s_1, v_2, ()) = T s_1 v_2 := eq_any fun k => by kernel_rfl
theorem S : a2Z prog ⟨175, sig, F⟩ := sound_k (res := [.tmp 4]) func175 (cok (cM ⟨Ae8.S, nM⟩))
end Aq2
namespace Ar4
noncomputable def sig : Sig := ⟨[pI, .rptr tL], [oB]⟩
noncomputable def cfg : Cfg := cf (cx [⟨175, Aq2.sig, Aq2.F⟩])
noncomputable def fin := finK cfg.c sig [.tmp 3]
noncomputable def F (d : Int × LI × Unit) : OB := anyK (a8N cfg fin (bd f174) (a5B sig.ps d 8))
variable (v_1 : Int) (a_2 : LI)
noncomputable def T : OB := (Aq2.F (a_2, v_1, ())).bind fun r3 => some ((!r3.1.1, ()), ())
theorem eq : F (v_1, a_2, ()) = T v_1 a_2 := eq_any fun k => by kernel_rfl
theorem S : a2Z prog ⟨174, sig, F⟩ := sound_k (res := [.tmp 3]) func174 (cok (cM ⟨Aq2.S, nM⟩))
noncomputable def cloG (y : LI × Unit) (d : Int × Unit) : Option (Bool × Unit) := (F (a8s [.rptr tL] [(false, tI)] d y)).map (·.1)
noncomputable def clo : Clo := ⟨174, ⟨[(false, tI)], [(.val false, .bool, .deep)]⟩, [.rptr tL], cloG⟩
theorem cloS : a4i prog clo := sound_clo (s := ⟨[(false, tI)], [(.val false, .bool, .deep)]⟩) (caps := [.rptr tL]) rfl S
end Ar4
namespace Ad4
noncomputable def sig : Sig := ⟨[pS, pI, pI], [oM]⟩
noncomputable def ctx (self : (SF × Int × Int × Unit) → OM) : Ctx := ⟨a2H tabl, [⟨107, Ab3.sig, Ab3.F⟩, ⟨108, Ab7.sig, Ab7.F⟩, ⟨144, Ag9.sig, Ag9.F⟩, ⟨162, Ag3.sig, Ag3.F⟩, ⟨173, Ap4.sig, Ap4.F⟩, ⟨138, sig, self⟩], [Ar4.clo], [], [], []⟩
noncomputable def cfg (self : (SF × Int × Int × Unit) → OM) : Cfg := ⟨(ctx self), [], [], fun _ => ([], []), fun _ => []⟩
noncomputable def code : Code := (f138).body.getD .skip
noncomputable def fin (self : (SF × Int × Int × Unit) → OM) := finK (ctx self) sig [.cell 6 86]
noncomputable def step (self : (SF × Int × Int × Unit) → OM) (d : SF × Int × Int × Unit) : OM := anyK (a8N (cfg self) (fin self) code (a5B sig.ps d 51))
variable (self : (SF × Int × Int × Unit) → OM) (s_1 : LL) (s_2 : Int) (s_3 : LI) (s_4 : LM) (face_5 simplex_6 : Int)
noncomputable def T : OM := if (face_5 == simplex_6) = true then if 0 ≤ face_5 ∧ face_5 < (s_3.length : Int) then (Ap4.F (s_2, (s_3.getD face_5.toNat 0 : Int), ())).bind fun r7 => some ((r7.1.1, ()), ()) else none else if 0 ≤ face_5 ∧ face_5 < (s_1.length : Int) then if 0 ≤ simplex_6 ∧ simplex_6 < (s_1.length : Int) then (Ag9.F (s_1.getD simplex_6.toNat ([] : LI), Ar4.cloG (s_1.getD face_5.toNat ([] : LI), ()), ())).bind fun r8 => (Ab3.F (s_1, simplex_6, ())).bind fun r9 => if 0 ≤ r8.1.1 ∧ r8.1.1 < (r9.1.1.length : Int) then (Ab7.F ((s_1, (s_2, (s_3, s_4))), simplex_6, r8.1.1, ())).bind fun r10 => (self ((s_1, (s_2, (s_3, s_4))), face_5, r9.1.1.getD r8.1.1.toNat 0, ())).bind fun r11 => (Ag3.F (r10.1.1, r11.1.1, ())).bind fun r12 => some ((r12.1.1, ()), ()) else none else none else none
theorem run (self : (SF × Int × Int × Unit) → OM) (k : Nat) (s_1 : LL) (s_2 : Int) (s_3 : LI) (s_4 : LM) (face_5 simplex_6 : Int) : a8N (cfg self) (fin self) code (a5B sig.ps ((s_1, (s_2, (s_3, s_4))), face_5, simplex_6, ()) 51) k = T self s_1 s_2 s_3 s_4 face_5 simplex_6 := by kernel_rfl
theorem eq : step self ((s_1, (s_2, (s_3, s_4))), face_5, simplex_6, ()) = T self s_1 s_2 s_3 s_4 face_5 simplex_6 := (congrArg anyK (funext fun k => run self k s_1 s_2 s_3 s_4 face_5 simplex_6)).trans (b0k _)
theorem ok (self : (SF × Int × Int × Unit) → OM) (hs : a2Z prog ⟨138, sig, self⟩) : CtxOK prog (ctx self) := ⟨nilM, mixed_ok, tab_ok tab_good, consM ⟨Ab3.S, consM ⟨Ab7.S, consM ⟨Ag9.S, consM ⟨Ag3.S, consM ⟨Ap4.S, consM ⟨hs, nilM⟩⟩⟩⟩⟩⟩, consM ⟨Ar4.cloS, nilM⟩, nilM⟩
theorem stepS (self : (SF × Int × Int × Unit) → OM) (hs : a2Z prog ⟨138, sig, self⟩) : a2Z prog ⟨138, sig, step self⟩ := b1f (fn := f138) (code := code) (g := cfg self) (res := [.cell 6 86]) func138 (by kernel_rfl) (by kernel_rfl) (ok self hs) (by kernel_rfl) (by kernel_rfl) (Nat.le_of_ble_eq_true (by kernel_rfl)) (by kernel_rfl)
noncomputable def R : Nat → (SF × Int × Int × Unit) → OM := recF step
noncomputable def F (d : SF × Int × Int × Unit) : OM := anyE fun q => R q d
theorem ofR {d : SF × Int × Int × Unit} {r : (MX × Unit) × (Unit)} (h : Ev (fun q => R q d) r) : F d = some r := anyE_of h
theorem S : a2Z prog ⟨138, sig, F⟩ := sound_rec ⟨_, func138, by kernel_rfl, by kernel_rfl⟩ fun self h => stepS self h
end Ad4
namespace Aj2
noncomputable def sig : Sig := ⟨[.val true TEdge, qS, .rptr tL], [oM]⟩
noncomputable def cfg : Cfg := cf (cx [⟨138, Ad4.sig, Ad4.F⟩])
noncomputable def fin := finK cfg.c sig [.cell 4 86]
noncomputable def F (d : (Int × Int × Int) × SF × LI × Unit) : OM := anyK (a8N cfg fin (bd f137) (a5B sig.ps d 17))
noncomputable def T (a_1 a_2 a_3 : Int) (a_4 : LL) (a_5 : Int) (a_6 : LI) (a_7 : LM) (a_8 : LI) : OM := if 0 ≤ a_3 ∧ a_3 < (a_8.length : Int) then if 0 ≤ a_1 ∧ a_1 < (a_8.length : Int) then (Ad4.F ((a_4, (a_5, (a_6, a_7))), (a_8.getD a_3.toNat 0 : Int), (a_8.getD a_1.toNat 0 : Int), ())).bind fun r9 => some ((r9.1.1, ()), ()) else none else none
theorem eq (a_1 a_2 a_3 : Int) (a_4 : LL) (a_5 : Int) (a_6 : LI) (a_7 : LM) (a_8 : LI) : F ((a_1, (a_2, a_3)), (a_4, (a_5, (a_6, a_7))), a_8, ()) = T a_1 a_2 a_3 a_4 a_5 a_6 a_7 a_8 := eq_any fun k => by kernel_rfl
theorem S : a2Z prog ⟨137, sig, F⟩ := sound_k (res := [.cell 4 86]) func137 (cok (cM ⟨Ad4.S, nM⟩))
noncomputable def cloG (y : SF × LI × Unit) (d : (Int × Int × Int) × Unit) : Option (MX × Unit) := (F (a8s [.rptr TSheaf, .rptr tL] [(true, TEdge)] d y)).map (·.1)
noncomputable def clo : Clo := ⟨137, ⟨[(true, TEdge)], [(.val true, TMatrix, .deep)]⟩, [.rptr TSheaf, .rptr tL], cloG⟩
theorem cloS : a4i prog clo := sound_clo (s := ⟨[(true, TEdge)], [(.val true, TMatrix, .deep)]⟩) (caps := [.rptr TSheaf, .rptr tL]) rfl S
end Aj2
namespace Ak3
noncomputable def sig : Sig := ⟨[pS, pC, pL], [oS]⟩
noncomputable def cfg : Cfg := cl (⟨a2H tabl, [⟨57, Aa1.sig, Aa1.F⟩, ⟨135, Ak2.sig, Ak2.F⟩, ⟨136, Aj3.sig, Aj3.F⟩], [Aj2.clo], [], [], []⟩) fun id => match id with | 3 => ([2, 3, 4, 6, 7, 8, 13, 14, 15], [12, 16, 24, 28, 32]) | _ => ([], [])
noncomputable def fin := finK cfg.c sig [.cell 6 34]
noncomputable def F (d : SF × LL × LI × Unit) : OS := anyK (a8N cfg fin (bd f82) (a5B sig.ps d 45))
variable (k : Nat) (x7 : LI) (x8 : LL) (i9 i10 : Int) (x11 : LL) (i12 : Int) (x13 : LI) (x14 : LM) (x15 x16 : LL) (i17 : Int) (x18 : LI) (x19 : LM) (x20 x21 : LI)
noncomputable def l3 : OS := Vm.runT cfg fin k [.inLoop (sub [1, 1, 0, 1, 0, 0] (bd f82)), .inBlock 0, .code (sub [1, 1, 1] (bd f82))] ⟨[dD, dD, vL x7, .ref 12 (.root 0), .ref 16 (.root 0), dD, .ref 24 (.root 0), .ref 28 (.root 0), .view 32 (.root 0) 1 false, dD, dD, dD, dD, vQ x8, vI i9, vI i10] ++ a7W 29, [(12, ⟨true, [cQ x11, cI i12, cL x13, ⟨(.sl TMatrix), .sh, x14⟩]⟩), (16, ⟨true, [cQ x15]⟩), (24, ⟨true, [dQ x16, cI i17, dL x18, ⟨(.sl TMatrix), .deep, x19⟩]⟩), (28, ⟨true, [dL x20]⟩), (32, ⟨false, [dL x21]⟩)]⟩
theorem l3_eq : l3 (k + 1) x7 x8 i9 i10 x11 i12 x13 x14 x15 x16 i17 x18 x19 x20 x21 = if (decide (i10 < i9)) = true then if 0 ≤ i10 ∧ i10 < (x8.length : Int) then (Ak2.F (x15, x7, x8.getD i10.toNat ([] : LI), ())).bind fun r22 => (Aa1.F (x11, r22.1.1, ())).bind fun r23 => if x20.length + [r23.1.1].length ≤ bigA then if 0 ≤ r23.1.1 ∧ r23.1.1 < (x13.length : Int) then if x21.length + [x13.getD r23.1.1.toNat 0].length ≤ bigA then l3 k x7 x8 i9 (IntKind.i64.wrap (i10 + 1)) x11 i12 x13 x14 x15 x16 i17 x18 x19 (x20 ++ [r23.1.1]) (x21 ++ [x13.getD r23.1.1.toNat 0]) else none else none else none else none else (Aj3.F (x15, i12, x21, Aj2.cloG ((x11, (i12, (x13, x14))), x20, ()), ())).bind fun r24 => some ((r24.1.1, ()), ()) := by kernel_rfl
variable (s_1 : LL) (s_2 : Int) (s_3 : LI) (s_4 : LM) (c_5 : LL) (images_6 : LI)
noncomputable def T : OS := l3 k images_6 c_5 (c_5.length : Int) (0 : Int) s_1 s_2 s_3 s_4 c_5 ([]) 0 ([]) ([]) ([] : LI) ([])
theorem of {r} (h : Ev (fun k => T k s_1 s_2 s_3 s_4 c_5 images_6) r) : F ((s_1, (s_2, (s_3, s_4))), c_5, images_6, ()) = some r := Ev.run (fun k => by kernel_rfl) h
theorem S : a2Z prog ⟨82, sig, F⟩ := sound_k (res := [.cell 6 34]) func82 (⟨nM, mixed_ok, tab_ok tab_good, cM ⟨Aa1.S, cM ⟨Ak2.S, cM ⟨Aj3.S, nM⟩⟩⟩, cM ⟨Aj2.cloS, nM⟩, nM⟩)
end Ak3
namespace Ac5
noncomputable def sig : Sig := ⟨[pS, pC], [oS]⟩
noncomputable def cfg : Cfg := cf (cx [⟨56, Ae1.sig, Ae1.F⟩, ⟨82, Ak3.sig, Ak3.F⟩])
noncomputable def fin := finK cfg.c sig [.cell 4 34]
noncomputable def F (d : SF × LL × Unit) : OS := anyK (a8N cfg fin (bd f39) (a5B sig.ps d 10))
variable (s_1 : LL) (s_2 : Int) (s_3 : LI) (s_4 : LM) (part_5 : LL)
noncomputable def T : OS := (Ae1.F (part_5, ())).bind fun r6 => (Ak3.F ((s_1, (s_2, (s_3, s_4))), part_5, r6.1.1, ())).bind fun r7 => some ((r7.1.1, ()), ())
theorem eq : F ((s_1, (s_2, (s_3, s_4))), part_5, ()) = T s_1 s_2 s_3 s_4 part_5 := eq_any fun k => by kernel_rfl
theorem S : a2Z prog ⟨39, sig, F⟩ := sound_k (res := [.cell 4 34]) func39 (cok (cM ⟨Ae1.S, cM ⟨Ak3.S, nM⟩⟩))
end Ac5
namespace Ad0
noncomputable def sig : Sig := ⟨[pL, .fnx ⟨[(false, tI)], [oB]⟩], [oB]⟩
noncomputable def cfg : Cfg := cf (cx [⟨144, Ag9.sig, Ag9.F⟩])
noncomputable def fin := finK cfg.c sig [.tmp 4]
noncomputable def F (d : LI × ((Int × Unit) → Option (Bool × Unit)) × Unit) : OB := anyK (a8N cfg fin (bd f93) (a5B sig.ps d 9))
variable (s_1 : LI) (f_2 : (Int × Unit) → Option (Bool × Unit))
noncomputable def T : OB := (Ag9.F (s_1, f_2, ())).bind fun r3 => some ((decide (r3.1.1 ≥ 0), ()), ())
theorem eq : F (s_1, f_2, ()) = T s_1 f_2 := eq_any fun k => by kernel_rfl
theorem S : a2Z prog ⟨93, sig, F⟩ := sound_k (res := [.tmp 4]) func93 (cok (cM ⟨Ag9.S, nM⟩))
end Ad0
namespace Ai1
noncomputable def sig : Sig := ⟨[pL], [oB]⟩
noncomputable def cfg : Cfg := cl (cx []) fun id => match id with | 2 => ([0, 3], []) | _ => ([], [])
noncomputable def fin := finK cfg.c sig [.tmp 2]
noncomputable def F (d : LI × Unit) : OB := anyK (a8N cfg fin (bd f164) (a5B sig.ps d 20))
variable (k : Nat) (x2 : LI) (i3 : Int)
noncomputable def l2 : OB := Vm.runT cfg fin k [.inLoop (sub [1, 0, 1, 0, 0] (bd f164)), .inBlock 0, .code (sub [1, 1] (bd f164))] ⟨[vL x2, dD, dD, vI i3] ++ a7W 16, []⟩
theorem l2_eq : l2 (k + 1) x2 i3 = if (decide (i3 < (x2.length : Int))) = true then if 0 ≤ (IntKind.i64.wrap (i3 - 1)) ∧ (IntKind.i64.wrap (i3 - 1)) < (x2.length : Int) then if 0 ≤ i3 ∧ i3 < (x2.length : Int) then if (decide ((x2.getD (IntKind.i64.wrap (i3 - 1)).toNat 0) ≥ (x2.getD i3.toNat 0 : Int))) = true then some ((false, ()), ()) else l2 k x2 (IntKind.i64.wrap (i3 + 1)) else none else none else some ((true, ()), ()) := by kernel_rfl
variable (list_1 : LI)
noncomputable def T : OB := l2 k list_1 (1 : Int)
theorem of {r} (h : Ev (fun k => T k list_1) r) : F (list_1, ()) = some r := Ev.run (fun k => by kernel_rfl) h
theorem S : a2Z prog ⟨164, sig, F⟩ := sound_k (res := [.tmp 2]) func164 (cok nM)
end Ai1
namespace Ab5
noncomputable def sig : Sig := ⟨[pI, pI, pI], [oB]⟩
noncomputable def cfg : Cfg := cf (cx [])
noncomputable def fin := finK cfg.c sig [.tmp 6]
noncomputable def F (d : Int × Int × Int × Unit) : OB := anyK (a8N cfg fin (bd f189) (a5B sig.ps d 15))
variable (n_1 low_2 high_3 : Int)
noncomputable def T : OB := if (decide (n_1 ≥ low_2)) = true then some ((decide (n_1 ≤ high_3), ()), ()) else some ((false, ()), ())
theorem eq : F (n_1, low_2, high_3, ()) = T n_1 low_2 high_3 := eq_any fun k => by kernel_rfl
theorem S : a2Z prog ⟨189, sig, F⟩ := sound_k (res := [.tmp 6]) func189 (cok nM)
end Ab5
namespace Ar8
noncomputable def sig : Sig := ⟨[pI], [oB]⟩
noncomputable def cfg : Cfg := cf (cx [⟨189, Ab5.sig, Ab5.F⟩])
noncomputable def fin := finK cfg.c sig [.tmp 2]
noncomputable def F (d : Int × Unit) : OB := anyK (a8N cfg fin (bd f166) (a5B sig.ps d 5))
variable (v_1 : Int)
noncomputable def T : OB := (Ab5.F (v_1, (0 : Int), (9 : Int), ())).bind fun r2 => some ((r2.1.1, ()), ())
theorem eq : F (v_1, ()) = T v_1 := eq_any fun k => by kernel_rfl
theorem S : a2Z prog ⟨166, sig, F⟩ := sound_k (res := [.tmp 2]) func166 (cok (cM ⟨Ab5.S, nM⟩))
end Ar8
namespace Ar2
noncomputable def sig : Sig := ⟨[pI], [oB]⟩
noncomputable def cfg : Cfg := cf (cx [⟨166, Ar8.sig, Ar8.F⟩])
noncomputable def fin := finK cfg.c sig [.tmp 2]
noncomputable def F (d : Int × Unit) : OB := anyK (a8N cfg fin (bd f165) (a5B sig.ps d 6))
variable (v_1 : Int)
noncomputable def T : OB := (Ar8.F (v_1, ())).bind fun r2 => some ((!r2.1.1, ()), ())
theorem eq : F (v_1, ()) = T v_1 := eq_any fun k => by kernel_rfl
theorem S : a2Z prog ⟨165, sig, F⟩ := sound_k (res := [.tmp 2]) func165 (cok (cM ⟨Ar8.S, nM⟩))
noncomputable def cloG (y : Unit) (d : Int × Unit) : Option (Bool × Unit) := (F (a8s [] [(false, tI)] d y)).map (·.1)
noncomputable def clo : Clo := ⟨165, ⟨[(false, tI)], [(.val false, .bool, .deep)]⟩, [], cloG⟩
theorem cloS : a4i prog clo := sound_clo (s := ⟨[(false, tI)], [(.val false, .bool, .deep)]⟩) (caps := []) rfl S
end Ar2
namespace Ao4
noncomputable def sig : Sig := ⟨[pL], [oB]⟩
noncomputable def cfg : Cfg := cf ⟨a2H tabl, [⟨93, Ad0.sig, Ad0.F⟩, ⟨164, Ai1.sig, Ai1.F⟩], [Ar2.clo], [], [], []⟩
noncomputable def fin := finK cfg.c sig [.tmp 2]
noncomputable def F (d : LI × Unit) : OB := anyK (a8N cfg fin (bd f130) (a5B sig.ps d 20))
variable (s_1 : LI)
noncomputable def T : OB := if (decide ((s_1.length : Int) ≥ 1)) = true then if (decide ((s_1.length : Int) ≤ 4)) = true then (Ai1.F (s_1, ())).bind fun r2 => if r2.1.1 = true then (Ad0.F (s_1, Ar2.cloG (()), ())).bind fun r3 => some ((!r3.1.1, ()), ()) else some ((false, ()), ()) else some ((false, ()), ()) else some ((false, ()), ())
theorem eq : F (s_1, ()) = T s_1 := eq_any fun k => by kernel_rfl
theorem S : a2Z prog ⟨130, sig, F⟩ := sound_k (res := [.tmp 2]) func130 (⟨nM, mixed_ok, tab_ok tab_good, cM ⟨Ad0.S, cM ⟨Ai1.S, nM⟩⟩, cM ⟨Ar2.cloS, nM⟩, nM⟩)
end Ao4
namespace Am4
noncomputable def sig : Sig := ⟨[pQ, .fnx ⟨[(false, tL)], [oB]⟩], [oI]⟩
noncomputable def cfg : Cfg := cl (cx []) fun id => match id with | 2 => ([0, 1, 7, 8], []) | _ => ([], [])
noncomputable def fin := finK cfg.c sig [.tmp 4]
noncomputable def F (d : LL × ((LI × Unit) → Option (Bool × Unit)) × Unit) : OI := anyK (a8N cfg fin (bd f167) (a5B sig.ps d 19))
variable (k : Nat) (x3 : LL) (f4 : (LI × Unit) → Option (Bool × Unit)) (i5 i6 : Int)
noncomputable def l2 : OI := Vm.runT cfg fin k [.inLoop (sub [1, 0, 1, 0, 0] (bd f167)), .inBlock 0, .code (sub [1, 1] (bd f167))] ⟨[vQ x3, .fnx ⟨[(false, tL)], [(.val false, .bool, .deep)]⟩ f4, dD, dD, dD, dD, dD, vI i5, vI i6] ++ a7W 10, []⟩
theorem l2_eq : l2 (k + 1) x3 f4 i5 i6 = if (decide (i6 < i5)) = true then if 0 ≤ i6 ∧ i6 < (x3.length : Int) then (f4 (x3.getD i6.toNat ([] : LI), ())).bind fun r7 => if r7.1 = true then some ((i6, ()), ()) else l2 k x3 f4 i5 (IntKind.i64.wrap (i6 + 1)) else none else some (((-1 : Int), ()), ()) := by kernel_rfl
variable (s_1 : LL) (f_2 : (LI × Unit) → Option (Bool × Unit))
noncomputable def T : OI := l2 k s_1 f_2 (s_1.length : Int) (0 : Int)
theorem of {r} (h : Ev (fun k => T k s_1 f_2) r) : F (s_1, f_2, ()) = some r := Ev.run (fun k => by kernel_rfl) h
theorem S : a2Z prog ⟨167, sig, F⟩ := sound_k (res := [.tmp 4]) func167 (cok nM)
end Am4
namespace An5
noncomputable def sig : Sig := ⟨[pQ, .fnx ⟨[(false, tL)], [oB]⟩], [oB]⟩
noncomputable def cfg : Cfg := cf (cx [⟨167, Am4.sig, Am4.F⟩])
noncomputable def fin := finK cfg.c sig [.tmp 4]
noncomputable def F (d : LL × ((LI × Unit) → Option (Bool × Unit)) × Unit) : OB := anyK (a8N cfg fin (bd f131) (a5B sig.ps d 9))
variable (s_1 : LL) (f_2 : (LI × Unit) → Option (Bool × Unit))
noncomputable def T : OB := (Am4.F (s_1, f_2, ())).bind fun r3 => some ((decide (r3.1.1 ≥ 0), ()), ())
theorem eq : F (s_1, f_2, ()) = T s_1 f_2 := eq_any fun k => by kernel_rfl
theorem S : a2Z prog ⟨131, sig, F⟩ := sound_k (res := [.tmp 4]) func131 (cok (cM ⟨Am4.S, nM⟩))
end An5
namespace Ao2
noncomputable def sig : Sig := ⟨[pL, qC, .rptr tI], [oB]⟩
noncomputable def cfg : Cfg := cf (cx [⟨57, Aa1.sig, Aa1.F⟩])
noncomputable def fin := finK cfg.c sig [.tmp 4]
noncomputable def F (d : LI × LL × Int × Unit) : OB := anyK (a8N cfg fin (bd f133) (a5B sig.ps d 13))
variable (f_1 : LI) (a_2 : LL) (a_3 : Int)
noncomputable def T : OB := if 0 ≤ (0 : Int) ∧ (0 : Int) ≤ a_3 ∧ a_3 ≤ (a_2.length : Int) then (Aa1.F (cutL a_2 (0 : Int) a_3, f_1, ())).bind fun r4 => some ((decide (r4.1.1 < 0), ()), ()) else none
theorem eq : F (f_1, a_2, a_3, ()) = T f_1 a_2 a_3 := eq_any fun k => by kernel_rfl
theorem S : a2Z prog ⟨133, sig, F⟩ := sound_k (res := [.tmp 4]) func133 (cok (cM ⟨Aa1.S, nM⟩))
noncomputable def cloG (y : LL × Int × Unit) (d : LI × Unit) : Option (Bool × Unit) := (F (a8s [.rptr tQ, .rptr tI] [(false, tL)] d y)).map (·.1)
noncomputable def clo : Clo := ⟨133, ⟨[(false, tL)], [(.val false, .bool, .deep)]⟩, [.rptr tQ, .rptr tI], cloG⟩
theorem cloS : a4i prog clo := sound_clo (s := ⟨[(false, tL)], [(.val false, .bool, .deep)]⟩) (caps := [.rptr tQ, .rptr tI]) rfl S
end Ao2
namespace Ab2
noncomputable def sig : Sig := ⟨[pC], [oB]⟩
noncomputable def cfg : Cfg := cl (⟨a2H tabl, [⟨96, Ac8.sig, Ac8.F⟩, ⟨130, Ao4.sig, Ao4.F⟩, ⟨131, An5.sig, An5.F⟩, ⟨132, Ae0.sig, Ae0.F⟩], [Ao2.clo], [], [], []⟩) fun id => match id with | 2 => ([1, 6, 7, 8], [4]) | _ => ([], [])
noncomputable def fin := finK cfg.c sig [.tmp 2]
noncomputable def F (d : LL × Unit) : OB := anyK (a8N cfg fin (bd f80) (a5B sig.ps d 40))
variable (k : Nat) (x2 : LL) (i3 i4 : Int) (x5 : LL)
noncomputable def l2 : OB := Vm.runT cfg fin k [.inLoop (sub [1, 0, 1, 0, 0] (bd f80)), .inBlock 0, .code (sub [1, 1] (bd f80))] ⟨[dD, .ref 4 (.root 0), dD, dD, dD, dD, vQ x2, vI i3, vI i4] ++ a7W 31, [(4, ⟨true, [cQ x5]⟩)]⟩
theorem l2_eq : l2 (k + 1) x2 i3 i4 x5 = if (decide (i4 < i3)) = true then if 0 ≤ i4 ∧ i4 < (x2.length : Int) then (Ao4.F (x2.getD i4.toNat ([] : LI), ())).bind fun r6 => if (!r6.1.1) = true then some ((false, ()), ()) else if (decide (i4 > 0)) = true then if 0 ≤ (IntKind.i64.wrap (i4 - 1)) ∧ (IntKind.i64.wrap (i4 - 1)) < (x5.length : Int) then (Ac8.F (x5.getD (IntKind.i64.wrap (i4 - 1)).toNat ([] : LI), x2.getD i4.toNat ([] : LI), ())).bind fun r7 => if (decide (r7.1.1 ≥ 0)) = true then some ((false, ()), ()) else (Ae0.F (x2.getD i4.toNat ([] : LI), ())).bind fun r8 => (An5.F (r8.1.1, Ao2.cloG (x5, i4, ()), ())).bind fun r9 => if r9.1.1 = true then some ((false, ()), ()) else l2 k x2 i3 (IntKind.i64.wrap (i4 + 1)) x5 else none else (Ae0.F (x2.getD i4.toNat ([] : LI), ())).bind fun r10 => (An5.F (r10.1.1, Ao2.cloG (x5, i4, ()), ())).bind fun r11 => if r11.1.1 = true then some ((false, ()), ()) else l2 k x2 i3 (IntKind.i64.wrap (i4 + 1)) x5 else none else some ((decide ((x5.length : Int) ≤ 48), ()), ()) := by kernel_rfl
variable (c_1 : LL)
noncomputable def T : OB := l2 k c_1 (c_1.length : Int) (0 : Int) c_1
theorem of {r} (h : Ev (fun k => T k c_1) r) : F (c_1, ()) = some r := Ev.run (fun k => by kernel_rfl) h
theorem S : a2Z prog ⟨80, sig, F⟩ := sound_k (res := [.tmp 2]) func80 (⟨nM, mixed_ok, tab_ok tab_good, cM ⟨Ac8.S, cM ⟨Ao4.S, cM ⟨An5.S, cM ⟨Ae0.S, nM⟩⟩⟩⟩, cM ⟨Ao2.cloS, nM⟩, nM⟩)
end Ab2
namespace Af0
noncomputable def sig : Sig := ⟨[pI], [oB]⟩
noncomputable def cfg : Cfg := cl (cx [⟨189, Ab5.sig, Ab5.F⟩]) fun id => match id with | 4 => ([0, 3], []) | _ => ([], [])
noncomputable def fin := finK cfg.c sig [.tmp 2]
noncomputable def F (d : Int × Unit) : OB := anyK (a8N cfg fin (bd f158) (a5B sig.ps d 18))
variable (k : Nat) (i3 i4 : Int)
noncomputable def l4 : OB := Vm.runT cfg fin k [.inLoop (sub [1, 1, 0, 1, 0, 0] (bd f158)), .inBlock 0, .code (sub [1, 1, 1] (bd f158))] ⟨[vI i3, dD, dD, vI i4] ++ a7W 14, []⟩
theorem l4_eq : l4 (k + 1) i3 i4 = if (decide ((IntKind.i64.wrap (i4 * i4)) ≤ i3)) = true then if i4 = 0 then none else if ((i3.tmod i4) == 0) = true then some ((false, ()), ()) else l4 k i3 (IntKind.i64.wrap (i4 + 1)) else some ((true, ()), ()) := by kernel_rfl
variable (p_1 : Int)
noncomputable def T : OB := (Ab5.F (p_1, (2 : Int), (251 : Int), ())).bind fun r2 => if (!r2.1.1) = true then some ((false, ()), ()) else l4 k p_1 (2 : Int)
theorem of {r} (h : Ev (fun k => T k p_1) r) : F (p_1, ()) = some r := Ev.run (fun k => by kernel_rfl) h
theorem S : a2Z prog ⟨158, sig, F⟩ := sound_k (res := [.tmp 2]) func158 (cok (cM ⟨Ab5.S, nM⟩))
end Af0
namespace Ac6
noncomputable def sig : Sig := ⟨[pC, pI], [oL]⟩
noncomputable def cfg : Cfg := cl (cx [⟨111, Ab4.sig, Ab4.F⟩]) fun id => match id with | 3 => ([1, 5, 9, 10, 11], [20]) | _ => ([], [])
noncomputable def fin := finK cfg.c sig [.tmp 4]
noncomputable def F (d : LL × Int × Unit) : OL := anyK (a8N cfg fin (bd f65) (a5B sig.ps d 27))
variable (k : Nat) (i3 : Int) (x4 : LL) (i5 i6 : Int) (x7 : LI)
noncomputable def l3 : OL := Vm.runT cfg fin k [.inLoop (sub [1, 1, 0, 1, 0, 0] (bd f65)), .inBlock 0, .code (sub [1, 1, 1] (bd f65))] ⟨[dD, vI i3, dD, dD, dD, .view 20 (.root 0) 1 false, dD, dD, dD, vQ x4, vI i5, vI i6] ++ a7W 15, [(20, ⟨false, [dL x7]⟩)]⟩
theorem l3_eq : l3 (k + 1) i3 x4 i5 i6 x7 = if (decide (i6 < i5)) = true then if 0 ≤ i6 ∧ i6 < (x4.length : Int) then (Ab4.F (x4.getD i6.toNat ([] : LI), ())).bind fun r8 => if (r8.1.1 == (IntKind.i64.wrap (i3 + 1))) = true then if x7.length + [i6].length ≤ bigA then l3 k i3 x4 i5 (IntKind.i64.wrap (i6 + 1)) (x7 ++ [i6]) else none else l3 k i3 x4 i5 (IntKind.i64.wrap (i6 + 1)) x7 else none else some ((x7, ()), ()) := by kernel_rfl
variable (c_1 : LL) (dimension_2 : Int)
noncomputable def T : OL := l3 k dimension_2 c_1 (c_1.length : Int) (0 : Int) ([])
theorem of {r} (h : Ev (fun k => T k c_1 dimension_2) r) : F (c_1, dimension_2, ()) = some r := Ev.run (fun k => by kernel_rfl) h
theorem S : a2Z prog ⟨65, sig, F⟩ := sound_k (res := [.tmp 4]) func65 (cok (cM ⟨Ab4.S, nM⟩))
end Ac6
namespace Ab0
noncomputable def sig : Sig := ⟨[pS, pI], [oI]⟩
noncomputable def cfg : Cfg := cl (cx [⟨65, Ac6.sig, Ac6.F⟩]) fun id => match id with | 3 => ([2, 5, 11, 12, 13], [8, 44]) | _ => ([], [])
noncomputable def fin := finK cfg.c sig [.tmp 4]
noncomputable def F (d : SF × Int × Unit) : OI := anyK (a8N cfg fin (bd f106) (a5B sig.ps d 26))
variable (k : Nat) (i7 i8 i9 : Int) (x10 : LL) (i11 : Int) (x12 : LI) (x13 : LM) (x14 : LI)
noncomputable def l3 : OI := Vm.runT cfg fin k [.inLoop (sub [1, 1, 0, 1, 0, 0] (bd f106)), .inBlock 0, .code (sub [1, 1, 1] (bd f106))] ⟨[dD, dD, .ref 8 (.root 0), dD, dD, vI i7, dD, dD, dD, dD, dD, .view 44 (.root 0) 1 false, vI i8, vI i9] ++ a7W 12, [(8, ⟨true, [cQ x10, cI i11, cL x12, ⟨(.sl TMatrix), .sh, x13⟩]⟩), (44, ⟨false, [dL x14]⟩)]⟩
theorem l3_eq : l3 (k + 1) i7 i8 i9 x10 i11 x12 x13 x14 = if (decide (i9 < i8)) = true then if 0 ≤ i9 ∧ i9 < (x14.length : Int) then if 0 ≤ (x14.getD i9.toNat 0 : Int) ∧ (x14.getD i9.toNat 0 : Int) < (x12.length : Int) then l3 k (IntKind.i64.wrap (i7 + (x12.getD (x14.getD i9.toNat 0 : Int).toNat 0))) i8 (IntKind.i64.wrap (i9 + 1)) x10 i11 x12 x13 x14 else none else none else some ((i7, ()), ()) := by kernel_rfl
variable (s_1 : LL) (s_2 : Int) (s_3 : LI) (s_4 : LM) (k_5 : Int)
noncomputable def T : OI := (Ac6.F (s_1, k_5, ())).bind fun r6 => l3 k (0 : Int) (r6.1.1.length : Int) (0 : Int) s_1 s_2 s_3 s_4 r6.1.1
theorem of {r} (h : Ev (fun k => T k s_1 s_2 s_3 s_4 k_5) r) : F ((s_1, (s_2, (s_3, s_4))), k_5, ()) = some r := Ev.run (fun k => by kernel_rfl) h
theorem S : a2Z prog ⟨106, sig, F⟩ := sound_k (res := [.tmp 4]) func106 (cok (cM ⟨Ac6.S, nM⟩))
end Ab0
namespace Ar3
noncomputable def sig : Sig := ⟨[pI], [oB]⟩
noncomputable def cfg : Cfg := cf (cx [⟨189, Ab5.sig, Ab5.F⟩])
noncomputable def fin := finK cfg.c sig [.tmp 2]
noncomputable def F (d : Int × Unit) : OB := anyK (a8N cfg fin (bd f190) (a5B sig.ps d 6))
variable (n_1 : Int)
noncomputable def T : OB := (Ab5.F (n_1, (0 : Int), (3 : Int), ())).bind fun r2 => some ((!r2.1.1, ()), ())
theorem eq : F (n_1, ()) = T n_1 := eq_any fun k => by kernel_rfl
theorem S : a2Z prog ⟨190, sig, F⟩ := sound_k (res := [.tmp 2]) func190 (cok (cM ⟨Ab5.S, nM⟩))
noncomputable def cloG (y : Unit) (d : Int × Unit) : Option (Bool × Unit) := (F (a8s [] [(false, tI)] d y)).map (·.1)
noncomputable def clo : Clo := ⟨190, ⟨[(false, tI)], [(.val false, .bool, .deep)]⟩, [], cloG⟩
theorem cloS : a4i prog clo := sound_clo (s := ⟨[(false, tI)], [(.val false, .bool, .deep)]⟩) (caps := []) rfl S
end Ar3
namespace Af9
noncomputable def sig : Sig := ⟨[pC, pL], [oB]⟩
noncomputable def cfg : Cfg := cl (⟨a2H tabl, [⟨93, Ad0.sig, Ad0.F⟩, ⟨106, Ab0.sig, Ab0.F⟩], [Ar3.clo], [], [], []⟩) fun id => match id with | 4 => ([1, 2, 16], [8]) | _ => ([], [])
noncomputable def fin := finK cfg.c sig [.tmp 4]
noncomputable def F (d : LL × LI × Unit) : OB := anyK (a8N cfg fin (bd f159) (a5B sig.ps d 26))
variable (k : Nat) (x4 : LI) (i5 : Int) (x6 : LL)
noncomputable def l4 : OB := Vm.runT cfg fin k [.inLoop (sub [1, 1, 0, 1, 0, 0] (bd f159)), .inBlock 0, .code (sub [1, 1, 1] (bd f159))] ⟨[dD, vL x4, .ref 8 (.root 0), dD, dD, dD, dD, dD, dD, dD, dD, dD, dD, dD, dD, dD, vI i5] ++ a7W 9, [(8, ⟨true, [cQ x6]⟩)]⟩
theorem l4_eq : l4 (k + 1) x4 i5 x6 = if (decide (i5 < 4)) = true then (Ab0.F ((x6, (0, (x4, []))), i5, ())).bind fun r7 => if (decide (r7.1.1 > 32)) = true then some ((false, ()), ()) else l4 k x4 (IntKind.i64.wrap (i5 + 1)) x6 else some ((true, ()), ()) := by kernel_rfl
variable (c_1 : LL) (stalks_2 : LI)
noncomputable def T : OB := if ((stalks_2.length : Int) != (c_1.length : Int)) = true then some ((false, ()), ()) else (Ad0.F (stalks_2, Ar3.cloG (()), ())).bind fun r3 => if r3.1.1 = true then some ((false, ()), ()) else l4 k stalks_2 (0 : Int) c_1
theorem of {r} (h : Ev (fun k => T k c_1 stalks_2) r) : F (c_1, stalks_2, ()) = some r := Ev.run (fun k => by kernel_rfl) h
theorem S : a2Z prog ⟨159, sig, F⟩ := sound_k (res := [.tmp 4]) func159 (⟨nM, mixed_ok, tab_ok tab_good, cM ⟨Ad0.S, cM ⟨Ab0.S, nM⟩⟩, cM ⟨Ar3.cloS, nM⟩, nM⟩)
end Af9
namespace Ar7
noncomputable def sig : Sig := ⟨[pI, pI], [oB]⟩
noncomputable def cfg : Cfg := cf (cx [⟨189, Ab5.sig, Ab5.F⟩])
noncomputable def fin := finK cfg.c sig [.tmp 4]
noncomputable def F (d : Int × Int × Unit) : OB := anyK (a8N cfg fin (bd f206) (a5B sig.ps d 9))
variable (a_1 p_2 : Int)
noncomputable def T : OB := (Ab5.F (a_1, (0 : Int), IntKind.i64.wrap (p_2 - (1 : Int)), ())).bind fun r3 => some ((r3.1.1, ()), ())
theorem eq : F (a_1, p_2, ()) = T a_1 p_2 := eq_any fun k => by kernel_rfl
theorem S : a2Z prog ⟨206, sig, F⟩ := sound_k (res := [.tmp 4]) func206 (cok (cM ⟨Ab5.S, nM⟩))
end Ar7
namespace Ar6
noncomputable def sig : Sig := ⟨[pI, .rptr tI], [oB]⟩
noncomputable def cfg : Cfg := cf (cx [⟨206, Ar7.sig, Ar7.F⟩])
noncomputable def fin := finK cfg.c sig [.tmp 3]
noncomputable def F (d : Int × Int × Unit) : OB := anyK (a8N cfg fin (bd f205) (a5B sig.ps d 8))
variable (a_1 a_2 : Int)
noncomputable def T : OB := (Ar7.F (a_1, a_2, ())).bind fun r3 => some ((!r3.1.1, ()), ())
theorem eq : F (a_1, a_2, ()) = T a_1 a_2 := eq_any fun k => by kernel_rfl
theorem S : a2Z prog ⟨205, sig, F⟩ := sound_k (res := [.tmp 3]) func205 (cok (cM ⟨Ar7.S, nM⟩))
noncomputable def cloG (y d : Int × Unit) : Option (Bool × Unit) := (F (a8s [.rptr tI] [(false, tI)] d y)).map (·.1)
noncomputable def clo : Clo := ⟨205, ⟨[(false, tI)], [(.val false, .bool, .deep)]⟩, [.rptr tI], cloG⟩
theorem cloS : a4i prog clo := sound_clo (s := ⟨[(false, tI)], [(.val false, .bool, .deep)]⟩) (caps := [.rptr tI]) rfl S
end Ar6
namespace Ah9
noncomputable def sig : Sig := ⟨[pL, pI], [oB]⟩
noncomputable def cfg : Cfg := cf ⟨a2H tabl, [⟨93, Ad0.sig, Ad0.F⟩], [Ar6.clo], [], [], []⟩
noncomputable def fin := finK cfg.c sig [.tmp 4]
noncomputable def F (d : LI × Int × Unit) : OB := anyK (a8N cfg fin (bd f182) (a5B sig.ps d 9))
variable (list_1 : LI) (p_2 : Int)
noncomputable def T : OB := (Ad0.F (list_1, Ar6.cloG (p_2, ()), ())).bind fun r3 => some ((!r3.1.1, ()), ())
theorem eq : F (list_1, p_2, ()) = T list_1 p_2 := eq_any fun k => by kernel_rfl
theorem S : a2Z prog ⟨182, sig, F⟩ := sound_k (res := [.tmp 4]) func182 (⟨nM, mixed_ok, tab_ok tab_good, cM ⟨Ad0.S, nM⟩, cM ⟨Ar6.cloS, nM⟩, nM⟩)
end Ah9
namespace Ao9
noncomputable def sig : Sig := ⟨[pI], [oB]⟩
noncomputable def cfg : Cfg := cf (cx [⟨189, Ab5.sig, Ab5.F⟩])
noncomputable def fin := finK cfg.c sig [.tmp 2]
noncomputable def F (d : Int × Unit) : OB := anyK (a8N cfg fin (bd f209) (a5B sig.ps d 5))
variable (n_1 : Int)
noncomputable def T : OB := (Ab5.F (n_1, (0 : Int), (32 : Int), ())).bind fun r2 => some ((r2.1.1, ()), ())
theorem eq : F (n_1, ()) = T n_1 := eq_any fun k => by kernel_rfl
theorem S : a2Z prog ⟨209, sig, F⟩ := sound_k (res := [.tmp 2]) func209 (cok (cM ⟨Ab5.S, nM⟩))
end Ao9
namespace Ao3
noncomputable def sig : Sig := ⟨[pM], [oB]⟩
noncomputable def cfg : Cfg := cf (cx [⟨111, Ab4.sig, Ab4.F⟩, ⟨158, Af0.sig, Af0.F⟩, ⟨182, Ah9.sig, Ah9.F⟩, ⟨209, Ao9.sig, Ao9.F⟩])
noncomputable def fin := finK cfg.c sig [.tmp 2]
noncomputable def F (d : MX × Unit) : OB := anyK (a8N cfg fin (bd f192) (a5B sig.ps d 34))
variable (m_1 m_2 m_3 : Int) (m_4 : LI)
noncomputable def T : OB := (Af0.F (m_1, ())).bind fun r5 => if r5.1.1 = true then (Ao9.F (m_2, ())).bind fun r6 => if r6.1.1 = true then (Ao9.F (m_3, ())).bind fun r7 => if r7.1.1 = true then (Ab4.F (m_4, ())).bind fun r8 => if (r8.1.1 == (IntKind.i64.wrap (m_2 * m_3))) = true then (Ah9.F (m_4, m_1, ())).bind fun r9 => some ((r9.1.1, ()), ()) else some ((false, ()), ()) else some ((false, ()), ()) else some ((false, ()), ()) else some ((false, ()), ())
theorem eq : F ((m_1, (m_2, (m_3, m_4))), ()) = T m_1 m_2 m_3 m_4 := eq_any fun k => by kernel_rfl
theorem S : a2Z prog ⟨192, sig, F⟩ := sound_k (res := [.tmp 2]) func192 (cok (cM ⟨Ab4.S, cM ⟨Af0.S, cM ⟨Ah9.S, cM ⟨Ao9.S, nM⟩⟩⟩⟩))
end Ao3
namespace Ao8
noncomputable def sig : Sig := ⟨[pM, pI, pI, pI], [oB]⟩
noncomputable def cfg : Cfg := cf (cx [⟨192, Ao3.sig, Ao3.F⟩])
noncomputable def fin := finK cfg.c sig [.tmp 8]
noncomputable def F (d : MX × Int × Int × Int × Unit) : OB := anyK (a8N cfg fin (bd f161) (a5B sig.ps d 29))
variable (m_1 m_2 m_3 : Int) (m_4 : LI) (p_5 from_6 to_7 : Int)
noncomputable def T : OB := (Ao3.F ((m_1, (m_2, (m_3, m_4))), ())).bind fun r8 => if r8.1.1 = true then if (m_1 == p_5) = true then if (m_2 == to_7) = true then some ((m_3 == from_6, ()), ()) else some ((false, ()), ()) else some ((false, ()), ()) else some ((false, ()), ())
theorem eq : F ((m_1, (m_2, (m_3, m_4))), p_5, from_6, to_7, ()) = T m_1 m_2 m_3 m_4 p_5 from_6 to_7 := eq_any fun k => by kernel_rfl
theorem S : a2Z prog ⟨161, sig, F⟩ := sound_k (res := [.tmp 8]) func161 (cok (cM ⟨Ao3.S, nM⟩))
end Ao8
namespace Ae6
noncomputable def sig : Sig := ⟨[pS], [oB]⟩
noncomputable def cfg : Cfg := cl (cx [⟨80, Ab2.sig, Ab2.F⟩, ⟨158, Af0.sig, Af0.F⟩, ⟨159, Af9.sig, Af9.F⟩, ⟨160, Ad9.sig, Ad9.F⟩, ⟨161, Ao8.sig, Ao8.F⟩]) fun id => match id with | 5 => ([1, 3, 27, 28, 29], [4, 12]) | _ => ([], [])
noncomputable def fin := finK cfg.c sig [.tmp 2]
noncomputable def F (d : SF × Unit) : OB := anyK (a8N cfg fin (bd f128) (a5B sig.ps d 69))
variable (k : Nat) (i9 i10 : Int) (x11 : LL) (i12 : Int) (x13 : LI) (x14 : LM) (x15 : List (Int × Int × Int))
noncomputable def l5 : OB := Vm.runT cfg fin k [.inLoop (sub [1, 1, 1, 0, 1, 0, 0] (bd f128)), .inBlock 0, .code (sub [1, 1, 1, 1] (bd f128))] ⟨[dD, .ref 4 (.root 0), dD, .view 12 (.root 0) 1 false, dD, dD, dD, dD, dD, dD, dD, dD, dD, dD, dD, dD, dD, dD, dD, dD, dD, dD, dD, dD, dD, dD, dD, .view 12 (.root 0) 1 false, vI i9, vI i10] ++ a7W 39, [(4, ⟨true, [cQ x11, cI i12, cL x13, ⟨(.sl TMatrix), .sh, x14⟩]⟩), (12, ⟨false, [⟨(.sl TEdge), .deep, x15⟩]⟩)]⟩
theorem l5_eq : l5 (k + 1) i9 i10 x11 i12 x13 x14 x15 = if (decide (i10 < i9)) = true then if 0 ≤ i10 ∧ i10 < (x15.length : Int) then if (decide (i10 ≥ (x14.length : Int))) = true then some ((false, ()), ()) else if 0 ≤ i10 ∧ i10 < (x14.length : Int) then if 0 ≤ (((x15.getD i10.toNat (0, 0, 0)).2).2 : Int) ∧ (((x15.getD i10.toNat (0, 0, 0)).2).2 : Int) < (x13.length : Int) then if 0 ≤ ((x15.getD i10.toNat (0, 0, 0)).1 : Int) ∧ ((x15.getD i10.toNat (0, 0, 0)).1 : Int) < (x13.length : Int) then (Ao8.F (x14.getD i10.toNat (0, 0, 0, ([] : LI)), i12, x13.getD (((x15.getD i10.toNat (0, 0, 0)).2).2 : Int).toNat 0, x13.getD ((x15.getD i10.toNat (0, 0, 0)).1 : Int).toNat 0, ())).bind fun r16 => if (!r16.1.1) = true then some ((false, ()), ()) else l5 k i9 (IntKind.i64.wrap (i10 + 1)) x11 i12 x13 x14 x15 else none else none else none else none else some (((x15.length : Int) == (x14.length : Int), ()), ()) := by kernel_rfl
variable (toArray_1 : LL) (toArray_2 : Int) (toArray_3 : LI) (toArray_4 : LM)
noncomputable def T : OB := (Ab2.F (toArray_1, ())).bind fun r5 => if (!r5.1.1) = true then some ((false, ()), ()) else (Af0.F (toArray_2, ())).bind fun r6 => if (!r6.1.1) = true then some ((false, ()), ()) else (Af9.F (toArray_1, toArray_3, ())).bind fun r7 => if (!r7.1.1) = true then some ((false, ()), ()) else (Ad9.F (toArray_1, ())).bind fun r8 => l5 k (r8.1.1.length : Int) (0 : Int) toArray_1 toArray_2 toArray_3 toArray_4 r8.1.1
theorem of {r} (h : Ev (fun k => T k toArray_1 toArray_2 toArray_3 toArray_4) r) : F ((toArray_1, (toArray_2, (toArray_3, toArray_4))), ()) = some r := Ev.run (fun k => by kernel_rfl) h
theorem S : a2Z prog ⟨128, sig, F⟩ := sound_k (res := [.tmp 2]) func128 (cok (cM ⟨Ab2.S, cM ⟨Af0.S, cM ⟨Af9.S, cM ⟨Ad9.S, cM ⟨Ao8.S, nM⟩⟩⟩⟩⟩))
end Ae6
namespace Ao1
noncomputable def sig : Sig := ⟨[pM, pM], [oB]⟩
noncomputable def cfg : Cfg := cf (cx [⟨188, Ab9.sig, Ab9.F⟩])
noncomputable def fin := finK cfg.c sig [.tmp 4]
noncomputable def F (d : MX × MX × Unit) : OB := anyK (a8N cfg fin (bd f163) (a5B sig.ps d 31))
variable (a_1 a_2 a_3 : Int) (a_4 : LI) (b_5 b_6 b_7 : Int) (b_8 : LI)
noncomputable def T : OB := if (a_1 == b_5) = true then if (a_2 == b_6) = true then if (a_3 == b_7) = true then (Ab9.F (a_4, b_8, ())).bind fun r9 => some ((r9.1.1, ()), ()) else some ((false, ()), ()) else some ((false, ()), ()) else some ((false, ()), ())
theorem eq : F ((a_1, (a_2, (a_3, a_4))), (b_5, (b_6, (b_7, b_8))), ()) = T a_1 a_2 a_3 a_4 b_5 b_6 b_7 b_8 := eq_any fun k => by kernel_rfl
theorem S : a2Z prog ⟨163, sig, F⟩ := sound_k (res := [.tmp 4]) func163 (cok (cM ⟨Ab9.S, nM⟩))
end Ao1
namespace Ac7
noncomputable def sig : Sig := ⟨[pS], [oI, oI, oB]⟩
noncomputable def cfg : Cfg := cl (cx [⟨107, Ab3.sig, Ab3.F⟩, ⟨108, Ab7.sig, Ab7.F⟩, ⟨162, Ag3.sig, Ag3.F⟩, ⟨163, Ao1.sig, Ao1.F⟩]) fun id => match id with | 2 => ([1, 15, 16, 17], [4]) | 8 => ([1, 6, 7, 8, 15, 16, 17, 31, 32], [4, 32]) | 11 => ([1, 6, 7, 8, 9, 10, 15, 16, 17, 31, 32], [4, 32]) | _ => ([], [])
noncomputable def fin := finK cfg.c sig [.tmp 2, .tmp 3, .tmp 4]
noncomputable def F (d : SF × Unit) : Option ((Int × Int × Bool × Unit) × (Unit)) := anyK (a8N cfg fin (bd f129) (a5B sig.ps d 86))
variable (k : Nat) (x5 : LL) (i6 i7 : Int) (x8 : LL) (i9 : Int) (x10 : LI) (x11 : LM)
noncomputable def l2 : Option ((Int × Int × Bool × Unit) × (Unit)) := Vm.runT cfg fin k [.inLoop (sub [1, 0, 1, 0, 0] (bd f129)), .inBlock 0, .code (sub [1, 1] (bd f129))] ⟨[dD, .ref 4 (.root 0), dD, dD, dD, dD, dD, dD, dD, dD, dD, dD, dD, dD, dD, vQ x5, vI i6, vI i7] ++ a7W 68, [(4, ⟨true, [cQ x8, cI i9, cL x10, ⟨(.sl TMatrix), .sh, x11⟩]⟩)]⟩
variable (x13 : LI) (i14 : Int) (x15 : LL) (i16 i17 i18 i19 : Int) (x20 : LL) (i21 : Int) (x22 : LI) (x23 : LM) (x24 : LI)
noncomputable def l8 : Option ((Int × Int × Bool × Unit) × (Unit)) := Vm.runT cfg fin k [.inLoop (sub [1, 0, 1, 0, 0, 1, 1, 0, 0, 1, 1, 1, 1, 1, 0, 0] (bd f129)), .inBlock 2, .inBlock 1, .code (sub [1, 0, 1, 0, 0, 1, 1, 1] (bd f129)), .inLoop (sub [1, 0, 1, 0, 0] (bd f129)), .inBlock 0, .code (sub [1, 1] (bd f129))] ⟨[dD, .ref 4 (.root 0), dD, dD, dD, dD, vL x13, vI i14, .view 32 (.root 0) 1 false, dD, dD, dD, dD, dD, dD, vQ x15, vI i16, vI i17, dD, dD, dD, dD, dD, dD, dD, dD, dD, dD, dD, dD, dD, vI i18, vI i19] ++ a7W 53, [(4, ⟨true, [cQ x20, cI i21, cL x22, ⟨(.sl TMatrix), .sh, x23⟩]⟩), (32, ⟨false, [dL x24]⟩)]⟩
variable (x25 : LI) (i26 i27 i28 : Int) (x29 : LL) (i30 i31 i32 i33 : Int) (x34 : LL) (i35 : Int) (x36 : LI) (x37 : LM) (x38 : LI)
noncomputable def l11 : Option ((Int × Int × Bool × Unit) × (Unit)) := Vm.runT cfg fin k [.inLoop (sub [1, 0, 1, 0, 0, 1, 1, 0, 0, 1, 1, 1, 1, 1, 0, 0, 1, 1, 0, 0, 1, 1, 0, 0] (bd f129)), .inBlock 4, .inBlock 3, .code (sub [1, 0, 1, 0, 0, 1, 1, 0, 0, 1, 1, 1, 1, 1, 0, 0, 1, 1, 1] (bd f129)), .inLoop (sub [1, 0, 1, 0, 0, 1, 1, 0, 0, 1, 1, 1, 1, 1, 0, 0] (bd f129)), .inBlock 2, .inBlock 1, .code (sub [1, 0, 1, 0, 0, 1, 1, 1] (bd f129)), .inLoop (sub [1, 0, 1, 0, 0] (bd f129)), .inBlock 0, .code (sub [1, 1] (bd f129))] ⟨[dD, .ref 4 (.root 0), dD, dD, dD, dD, vL x25, vI i26, .view 32 (.root 0) 1 false, vI i27, vI i28, dD, dD, dD, dD, vQ x29, vI i30, vI i31, dD, dD, dD, dD, dD, dD, dD, dD, dD, dD, dD, dD, dD, vI i32, vI i33] ++ a7W 53, [(4, ⟨true, [cQ x34, cI i35, cL x36, ⟨(.sl TMatrix), .sh, x37⟩]⟩), (32, ⟨false, [dL x38]⟩)]⟩
theorem l2_eq : l2 (k + 1) x5 i6 i7 x8 i9 x10 x11 = if (decide (i7 < i6)) = true then if 0 ≤ i7 ∧ i7 < (x5.length : Int) then if (decide (((x5.getD i7.toNat ([] : LI)).length : Int) < 3)) = true then l2 k x5 i6 (IntKind.i64.wrap (i7 + 1)) x8 i9 x10 x11 else (Ab3.F (x8, i7, ())).bind fun r12 => l8 k (x5.getD i7.toNat ([] : LI)) i7 x5 i6 i7 ((x5.getD i7.toNat ([] : LI)).length : Int) (0 : Int) x8 i9 x10 x11 r12.1.1 else none else some (((0 : Int), ((0 : Int), (false, ()))), ()) := by kernel_rfl
theorem l8_eq : l8 (k + 1) x13 i14 x15 i16 i17 i18 i19 x20 i21 x22 x23 x24 = if (decide (i19 < i18)) = true then l11 k x13 i14 i19 (IntKind.i64.wrap (i19 + 1)) x15 i16 i17 i18 i19 x20 i21 x22 x23 x24 else l2 k x15 i16 (IntKind.i64.wrap (i17 + 1)) x20 i21 x22 x23 := by kernel_rfl
theorem l11_eq : l11 (k + 1) x25 i26 i27 i28 x29 i30 i31 i32 i33 x34 i35 x36 x37 x38 = if (decide (i28 < (x25.length : Int))) = true then (Ab7.F ((x34, (i35, (x36, x37))), i26, i27, ())).bind fun r39 => if 0 ≤ i27 ∧ i27 < (x38.length : Int) then (Ab7.F ((x34, (i35, (x36, x37))), (x38.getD i27.toNat 0 : Int), IntKind.i64.wrap (i28 - 1), ())).bind fun r40 => (Ag3.F (r39.1.1, r40.1.1, ())).bind fun r41 => (Ab7.F ((x34, (i35, (x36, x37))), i26, i28, ())).bind fun r42 => if 0 ≤ i28 ∧ i28 < (x38.length : Int) then (Ab7.F ((x34, (i35, (x36, x37))), (x38.getD i28.toNat 0 : Int), i27, ())).bind fun r43 => (Ag3.F (r42.1.1, r43.1.1, ())).bind fun r44 => (Ao1.F (r41.1.1, r44.1.1, ())).bind fun r45 => if (!r45.1.1) = true then if 0 ≤ i27 ∧ i27 < (x38.length : Int) then (Ab3.F (x34, (x38.getD i27.toNat 0 : Int), ())).bind fun r46 => if 0 ≤ (IntKind.i64.wrap (i28 - 1)) ∧ (IntKind.i64.wrap (i28 - 1)) < (r46.1.1.length : Int) then some ((i26, (r46.1.1.getD (IntKind.i64.wrap (i28 - 1)).toNat 0, (true, ()))), ()) else none else none else l11 k x25 i26 i27 (IntKind.i64.wrap (i28 + 1)) x29 i30 i31 i32 i33 x34 i35 x36 x37 x38 else none else none else l8 k x25 i26 x29 i30 i31 i32 (IntKind.i64.wrap (i33 + 1)) x34 i35 x36 x37 x38 := by kernel_rfl
variable (toArray_1 : LL) (toArray_2 : Int) (toArray_3 : LI) (toArray_4 : LM)
noncomputable def T : Option ((Int × Int × Bool × Unit) × (Unit)) := l2 k toArray_1 (toArray_1.length : Int) (0 : Int) toArray_1 toArray_2 toArray_3 toArray_4
theorem of {r} (h : Ev (fun k => T k toArray_1 toArray_2 toArray_3 toArray_4) r) : F ((toArray_1, (toArray_2, (toArray_3, toArray_4))), ()) = some r := Ev.run (fun k => by kernel_rfl) h
theorem S : a2Z prog ⟨129, sig, F⟩ := sound_k (res := [.tmp 2, .tmp 3, .tmp 4]) func129 (cok (cM ⟨Ab3.S, cM ⟨Ab7.S, cM ⟨Ag3.S, cM ⟨Ao1.S, nM⟩⟩⟩⟩))
end Ac7
namespace Aj8
noncomputable def sig : Sig := ⟨[pS], [oB]⟩
noncomputable def cfg : Cfg := cf (cx [⟨128, Ae6.sig, Ae6.F⟩, ⟨129, Ac7.sig, Ac7.F⟩])
noncomputable def fin := finK cfg.c sig [.tmp 2]
noncomputable def F (d : SF × Unit) : OB := anyK (a8N cfg fin (bd f79) (a5B sig.ps d 17))
variable (s_1 : LL) (s_2 : Int) (s_3 : LI) (s_4 : LM)
noncomputable def T : OB := (Ae6.F ((s_1, (s_2, (s_3, s_4))), ())).bind fun r5 => if (!r5.1.1) = true then some ((false, ()), ()) else (Ac7.F ((s_1, (s_2, (s_3, s_4))), ())).bind fun r6 => some ((!r6.1.2.2.1, ()), ())
theorem eq : F ((s_1, (s_2, (s_3, s_4))), ()) = T s_1 s_2 s_3 s_4 := eq_any fun k => by kernel_rfl
theorem S : a2Z prog ⟨79, sig, F⟩ := sound_k (res := [.tmp 2]) func79 (cok (cM ⟨Ae6.S, cM ⟨Ac7.S, nM⟩⟩))
end Aj8
namespace Ak7
noncomputable def sig : Sig := ⟨[pQ, pQ, .fnx ⟨[(false, tL), (false, tL)], [oB]⟩], [oB]⟩
noncomputable def cfg : Cfg := cl (cx []) fun id => match id with | 4 => ([1, 2, 15, 16, 17], []) | _ => ([], [])
noncomputable def fin := finK cfg.c sig [.tmp 6]
noncomputable def F (d : LL × LL × ((LI × LI × Unit) → Option (Bool × Unit)) × Unit) : OB := anyK (a8N cfg fin (bd f223) (a5B sig.ps d 32))
variable (k : Nat) (x4 : LL) (f5 : (LI × LI × Unit) → Option (Bool × Unit)) (x6 : LL) (i7 i8 : Int)
noncomputable def l4 : OB := Vm.runT cfg fin k [.inLoop (sub [1, 1, 0, 1, 0, 0] (bd f223)), .inBlock 0, .code (sub [1, 1, 1] (bd f223))] ⟨[dD, vQ x4, .fnx ⟨[(false, tL), (false, tL)], [(.val false, .bool, .deep)]⟩ f5, dD, dD, dD, dD, dD, dD, dD, dD, dD, dD, dD, dD, vQ x6, vI i7, vI i8] ++ a7W 14, []⟩
theorem l4_eq : l4 (k + 1) x4 f5 x6 i7 i8 = if (decide (i8 < i7)) = true then if 0 ≤ i8 ∧ i8 < (x6.length : Int) then if 0 ≤ i8 ∧ i8 < (x4.length : Int) then (f5 (x6.getD i8.toNat ([] : LI), x4.getD i8.toNat ([] : LI), ())).bind fun r9 => if (!r9.1) = true then some ((false, ()), ()) else l4 k x4 f5 x6 i7 (IntKind.i64.wrap (i8 + 1)) else none else none else some ((true, ()), ()) := by kernel_rfl
variable (s1_1 s2_2 : LL) (f_3 : (LI × LI × Unit) → Option (Bool × Unit))
noncomputable def T : OB := if ((s1_1.length : Int) != (s2_2.length : Int)) = true then some ((false, ()), ()) else l4 k s2_2 f_3 s1_1 (s1_1.length : Int) (0 : Int)
theorem of {r} (h : Ev (fun k => T k s1_1 s2_2 f_3) r) : F (s1_1, s2_2, f_3, ()) = some r := Ev.run (fun k => by kernel_rfl) h
theorem S : a2Z prog ⟨223, sig, F⟩ := sound_k (res := [.tmp 6]) func223 (cok nM)
end Ak7
namespace Ao6
noncomputable def sig : Sig := ⟨[pQ, pQ], [oB]⟩
noncomputable def cfg : Cfg := cf ⟨a2H tabl, [⟨223, Ak7.sig, Ak7.F⟩], [Ab9.clo], [], [], []⟩
noncomputable def fin := finK cfg.c sig [.tmp 4]
noncomputable def F (d : LL × LL × Unit) : OB := anyK (a8N cfg fin (bd f203) (a5B sig.ps d 8))
variable (a_1 b_2 : LL)
noncomputable def T : OB := (Ak7.F (a_1, b_2, Ab9.cloG (()), ())).bind fun r3 => some ((r3.1.1, ()), ())
theorem eq : F (a_1, b_2, ()) = T a_1 b_2 := eq_any fun k => by kernel_rfl
theorem S : a2Z prog ⟨203, sig, F⟩ := sound_k (res := [.tmp 4]) func203 (⟨nM, mixed_ok, tab_ok tab_good, cM ⟨Ak7.S, nM⟩, cM ⟨Ab9.cloS, nM⟩, nM⟩)
end Ao6
namespace Ao0
noncomputable def sig : Sig := ⟨[pC, pC], [oB]⟩
noncomputable def cfg : Cfg := cf (cx [⟨203, Ao6.sig, Ao6.F⟩])
noncomputable def fin := finK cfg.c sig [.tmp 4]
noncomputable def F (d : LL × LL × Unit) : OB := anyK (a8N cfg fin (bd f180) (a5B sig.ps d 10))
variable (a_1 b_2 : LL)
noncomputable def T : OB := (Ao6.F (a_1, b_2, ())).bind fun r3 => some ((r3.1.1, ()), ())
theorem eq : F (a_1, b_2, ()) = T a_1 b_2 := eq_any fun k => by kernel_rfl
theorem S : a2Z prog ⟨180, sig, F⟩ := sound_k (res := [.tmp 4]) func180 (cok (cM ⟨Ao6.S, nM⟩))
end Ao0
namespace Ag7
noncomputable def sig : Sig := ⟨[.val false (.sl tQ)], [(.val false, tQ, .shal)]⟩
noncomputable def cfg : Cfg := ⟨⟨a2H tabl, [], [], [], [(224, tL)], []⟩, [], [], fun id => match id with | 3 => ([0, 3, 9, 10, 11], []) | 11 => ([6, 25, 26, 27], [24]) | _ => ([], []), fun id => match id with | 11 => [24] | _ => []⟩
noncomputable def fin := finK cfg.c sig [.tmp 2]
noncomputable def F (d : List LL × Unit) : OQ := anyK (a8N cfg fin (bd f204) (a5B sig.ps d 36))
variable (k : Nat) (x2 : List LL) (i3 : Int) (x4 : List LL) (i5 i6 : Int)
noncomputable def l3 : OQ := Vm.runT cfg fin k [.inLoop (sub [1, 1, 0, 1, 0, 0] (bd f204)), .inBlock 0, .code (sub [1, 1, 1] (bd f204))] ⟨[.val false [⟨(.sl tQ), .sh, x2⟩], dD, dD, vI i3, dD, dD, dD, dD, dD, .val false [⟨(.sl tQ), .sh, x4⟩], vI i5, vI i6] ++ a7W 24, []⟩
variable (x7 : List LL) (i8 i9 : Int) (x10 : LL)
noncomputable def l11 : OQ := Vm.runT cfg fin k [.inLoop (sub [1, 1, 1, 1, 0, 1, 0, 0] (bd f204)), .inBlock 2, .code (sub [1, 1, 1, 1, 1] (bd f204))] ⟨[dD, dD, dD, dD, dD, dD, .view 24 (.root 0) 1 false, dD, dD, dD, dD, dD, dD, dD, dD, dD, dD, dD, dD, dD, dD, dD, dD, dD, dD, .val false [⟨(.sl tQ), .sh, x7⟩], vI i8, vI i9] ++ a7W 8, [(24, ⟨false, [⟨tQ, .shal, x10⟩]⟩)]⟩
theorem l3_eq : l3 (k + 1) x2 i3 x4 i5 i6 = if (decide (i6 < i5)) = true then if 0 ≤ i6 ∧ i6 < (x4.length : Int) then if (decide ((IntKind.i64.wrap (i3 + ((x4.getD i6.toNat ([] : LL)).length : Int))) < 0)) = true then none else l3 k x2 (IntKind.i64.wrap (i3 + ((x4.getD i6.toNat ([] : LL)).length : Int))) x4 i5 (IntKind.i64.wrap (i6 + 1)) else none else if 0 ≤ i3 ∧ i3 ≤ (bigN : Int) then l11 k x2 (x2.length : Int) (0 : Int) ([] : LL) else none := by kernel_rfl
theorem l11_eq : l11 (k + 1) x7 i8 i9 x10 = if (decide (i9 < i8)) = true then if 0 ≤ i9 ∧ i9 < (x7.length : Int) then if x10.length + (x7.getD i9.toNat ([] : LL)).length ≤ bigA then l11 k x7 i8 (IntKind.i64.wrap (i9 + 1)) (x10 ++ (x7.getD i9.toNat ([] : LL))) else none else none else some ((x10, ()), ()) := by kernel_rfl
variable (slices_1 : List LL)
noncomputable def T : OQ := l3 k slices_1 (0 : Int) slices_1 (slices_1.length : Int) (0 : Int)
theorem of {r} (h : Ev (fun k => T k slices_1) r) : F (slices_1, ()) = some r := Ev.run (fun k => by kernel_rfl) h
theorem S : a2Z prog ⟨204, sig, F⟩ := sound_k (res := [.tmp 2]) func204 (⟨nM, mixed_ok, tab_ok tab_good, nM, nM, cM ⟨slices_Grow_LLint64_Lint64.growOK, nM⟩⟩)
end Ag7
namespace Ap3
noncomputable def sig : Sig := ⟨[pC, pC], [oC]⟩
noncomputable def cfg : Cfg := cf (cx [⟨151, Ad6.sig, Ad6.F⟩, ⟨204, Ag7.sig, Ag7.F⟩])
noncomputable def fin := finK cfg.c sig [.cell 4 31]
noncomputable def F (d : LL × LL × Unit) : OQ := anyK (a8N cfg fin (bd f181) (a5B sig.ps d 12))
variable (a_1 b_2 : LL)
noncomputable def T : OQ := (Ag7.F ([a_1, b_2], ())).bind fun r3 => (Ad6.F (r3.1.1, ())).bind fun r4 => some ((r4.1.1, ()), ())
theorem eq : F (a_1, b_2, ()) = T a_1 b_2 := eq_any fun k => by kernel_rfl
theorem S : a2Z prog ⟨181, sig, F⟩ := sound_k (res := [.cell 4 31]) func181 (cok (cM ⟨Ad6.S, cM ⟨Ag7.S, nM⟩⟩))
end Ap3
namespace Ar1
noncomputable def sig : Sig := ⟨[pC, pC, pC], [oB]⟩
noncomputable def cfg : Cfg := cf (cx [⟨80, Ab2.sig, Ab2.F⟩, ⟨180, Ao0.sig, Ao0.F⟩, ⟨181, Ap3.sig, Ap3.F⟩])
noncomputable def fin := finK cfg.c sig [.tmp 6]
noncomputable def F (d : LL × LL × LL × Unit) : OB := anyK (a8N cfg fin (bd f142) (a5B sig.ps d 24))
variable (c_1 a_2 b_3 : LL)
noncomputable def T : OB := (Ab2.F (c_1, ())).bind fun r4 => if r4.1.1 = true then (Ab2.F (a_2, ())).bind fun r5 => if r5.1.1 = true then (Ab2.F (b_3, ())).bind fun r6 => if r6.1.1 = true then (Ap3.F (a_2, b_3, ())).bind fun r7 => (Ao0.F (r7.1.1, c_1, ())).bind fun r8 => some ((r8.1.1, ()), ()) else some ((false, ()), ()) else some ((false, ()), ()) else some ((false, ()), ())
theorem eq : F (c_1, a_2, b_3, ()) = T c_1 a_2 b_3 := eq_any fun k => by kernel_rfl
theorem S : a2Z prog ⟨142, sig, F⟩ := sound_k (res := [.tmp 6]) func142 (cok (cM ⟨Ab2.S, cM ⟨Ao0.S, cM ⟨Ap3.S, nM⟩⟩⟩))
end Ar1
namespace Ak0
noncomputable def sig : Sig := ⟨[pS, pC, pC], [oI]⟩
noncomputable def cfg : Cfg := cf (cx [⟨79, Aj8.sig, Aj8.F⟩, ⟨80, Ab2.sig, Ab2.F⟩, ⟨142, Ar1.sig, Ar1.F⟩])
noncomputable def fin := finK cfg.c sig [.tmp 6]
noncomputable def F (d : SF × LL × LL × Unit) : OI := anyK (a8N cfg fin (bd f89) (a5B sig.ps d 28))
variable (s_1 : LL) (s_2 : Int) (s_3 : LI) (s_4 : LM) (a_5 b_6 : LL)
noncomputable def T : OI := (Aj8.F ((s_1, (s_2, (s_3, s_4))), ())).bind fun r7 => if (!r7.1.1) = true then some ((1, ()), ()) else (Ab2.F (a_5, ())).bind fun r8 => if (!r8.1.1) = true then some ((1, ()), ()) else (Ab2.F (b_6, ())).bind fun r9 => if (!r9.1.1) = true then some ((1, ()), ()) else (Ar1.F (s_1, a_5, b_6, ())).bind fun r10 => if (!r10.1.1) = true then some ((6, ()), ()) else some ((0, ()), ())
theorem eq : F ((s_1, (s_2, (s_3, s_4))), a_5, b_6, ()) = T s_1 s_2 s_3 s_4 a_5 b_6 := eq_any fun k => by kernel_rfl
theorem S : a2Z prog ⟨89, sig, F⟩ := sound_k (res := [.tmp 6]) func89 (cok (cM ⟨Aj8.S, cM ⟨Ab2.S, cM ⟨Ar1.S, nM⟩⟩⟩))
end Ak0
namespace Am0
noncomputable def sig : Sig := ⟨[pI], [oB]⟩
noncomputable def cfg : Cfg := cf (cx [])
noncomputable def fin := finK cfg.c sig [.tmp 2]
noncomputable def F (d : Int × Unit) : OB := anyK (a8N cfg fin (bd f94) (a5B sig.ps d 5))
variable (x_1 : Int)
noncomputable def T : OB := some ((x_1 != (0 : Int), ()), ())
theorem eq : F (x_1, ()) = T x_1 := eq_any fun k => by kernel_rfl
theorem S : a2Z prog ⟨94, sig, F⟩ := sound_k (res := [.tmp 2]) func94 (cok nM)
noncomputable def cloG (y : Unit) (d : Int × Unit) : Option (Bool × Unit) := (F (a8s [] [(false, tI)] d y)).map (·.1)
noncomputable def clo : Clo := ⟨94, ⟨[(false, tI)], [(.val false, .bool, .deep)]⟩, [], cloG⟩
theorem cloS : a4i prog clo := sound_clo (s := ⟨[(false, tI)], [(.val false, .bool, .deep)]⟩) (caps := []) rfl S
end Am0
namespace Ag2
noncomputable def sig : Sig := ⟨[pL], [oB]⟩
noncomputable def cfg : Cfg := cf ⟨a2H tabl, [⟨93, Ad0.sig, Ad0.F⟩], [Am0.clo], [], [], []⟩
noncomputable def fin := finK cfg.c sig [.tmp 2]
noncomputable def F (d : LI × Unit) : OB := anyK (a8N cfg fin (bd f55) (a5B sig.ps d 6))
variable (list_1 : LI)
noncomputable def T : OB := (Ad0.F (list_1, Am0.cloG (()), ())).bind fun r2 => some ((!r2.1.1, ()), ())
theorem eq : F (list_1, ()) = T list_1 := eq_any fun k => by kernel_rfl
theorem S : a2Z prog ⟨55, sig, F⟩ := sound_k (res := [.tmp 2]) func55 (⟨nM, mixed_ok, tab_ok tab_good, cM ⟨Ad0.S, nM⟩, cM ⟨Am0.cloS, nM⟩, nM⟩)
end Ag2
end Go.Proofs.YtanmmcfiogamfaaGreat
