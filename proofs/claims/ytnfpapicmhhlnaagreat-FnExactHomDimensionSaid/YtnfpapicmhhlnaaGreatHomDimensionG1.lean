/- The functions, as the machine runs them. -/
import Derived.Test.YtnfpapicmhhlnaaGreatVm4
import Derived.Test.YtnfpapicmhhlnaaGreatProg
import Derived.KernelRfl
import Derived.WalkKit
import Derived.Lib.Walk
import Derived.Lib.AppendZeros
namespace Go.Proofs.YtnfpapicmhhlnaaGreat
open Go Go.Vm
set_option linter.unusedVariables false
set_option linter.unusedSimpArgs false
open Go.Proofs.Tryz
abbrev LI := List Int
abbrev LL := List LI
abbrev MX := Int × Int × Int × LI
abbrev LM := List MX
abbrev SF := LL × Int × LI × LM
abbrev OI := Option ((Int × Unit) × Unit)
abbrev OB := Option ((Bool × Unit) × Unit)
abbrev OL := Option ((LI × Unit) × Unit)
abbrev OQ := Option ((LL × Unit) × Unit)
abbrev OM := Option ((MX × Unit) × Unit)
abbrev OS := Option ((SF × Unit) × Unit)
abbrev tI : Ty := .int .i64
abbrev tL : Ty := .sl tI
abbrev tQ : Ty := .sl tL
abbrev cI (x : Int) : Cell := ⟨tI, .sh, x⟩
abbrev cL (x : LI) : Cell := ⟨tL, .sh, x⟩
abbrev dL (x : LI) : Cell := ⟨tL, .deep, x⟩
abbrev cQ (x : LL) : Cell := ⟨tQ, .sh, x⟩
abbrev dQ (x : LL) : Cell := ⟨tQ, .deep, x⟩
abbrev vI (x : Int) : TV := .val false [cI x]
abbrev vL (x : LI) : TV := .val false [cL x]
abbrev vQ (x : LL) : TV := .val false [cQ x]
abbrev TMatrix_2 : Ty := .pair tI tL
abbrev TMatrix_1 : Ty := .pair tI TMatrix_2
abbrev TMatrix : Ty := .pair tI TMatrix_1
abbrev TSheaf_2 : Ty := .pair tL (.sl TMatrix)
abbrev TSheaf_1 : Ty := .pair tI TSheaf_2
abbrev TSheaf : Ty := .pair tQ TSheaf_1
abbrev TEdge_1 : Ty := .pair tI tI
abbrev TEdge : Ty := .pair tI TEdge_1
def tabl : List (Nat × TInfo) := [
  (2, ⟨false, tI, 0, []⟩),
  (3, ⟨false, tI, 0, []⟩),
  (4, ⟨false, .bool, 0, []⟩),
  (22, ⟨false, tQ, 25, []⟩),
  (24, ⟨true, tQ, 0, [(0, 1, false)]⟩),
  (25, ⟨false, tL, 2, []⟩),
  (26, ⟨false, (.sl TMatrix), 70, []⟩),
  (28, ⟨true, TSheaf, 0, [(0, 1, true), (1, 1, false), (2, 1, false), (3, 1, false)]⟩),
  (32, ⟨true, tQ, 0, [(0, 1, false)]⟩),
  (33, ⟨false, (.sl TMatrix), 53, []⟩),
  (35, ⟨true, TSheaf, 0, [(0, 1, true), (1, 1, false), (2, 1, false), (3, 1, false)]⟩),
  (53, ⟨true, TMatrix, 0, [(0, 1, false), (1, 1, false), (2, 1, false), (3, 1, false)]⟩),
  (60, ⟨false, (.sl TEdge), 63, []⟩),
  (63, ⟨true, TEdge, 0, [(0, 1, false), (1, 1, false), (2, 1, false)]⟩),
  (70, ⟨true, TMatrix, 0, [(0, 1, false), (1, 1, false), (2, 1, false), (3, 1, false)]⟩),
  (92, ⟨false, (.sl TSheaf), 35, []⟩),
  (145, ⟨false, (.int .u64), 0, []⟩),
  (149, ⟨false, tL, 3, []⟩)]
theorem tab_good : tabB Go.Proofs.Tryz.prog tabl = true := by kernel_rfl
theorem tab_open : b3o Go.Proofs.Tryz.prog tabl = true := by kernel_rfl
theorem mixed_ok : Go.Proofs.Tryz.prog.follows .mixedOrders = true := by kernel_rfl
set_option maxHeartbeats 2000000 in
set_option maxRecDepth 100000 in
theorem slices_Grow_Lint64_int64.grow0 (w : World) : Calls Go.Proofs.Tryz.prog 91 #[.slice none 0 0, .int .i64 ((0 : Nat) : Int)] w fun e w' => e = .returned (.slice none 0 0) ∧ w' = w := by
  have h2 : Go.RowKit.wrap64 (((0 : Nat) : Int) - ((0 : Nat) : Int)) = 0 := by unfold Go.RowKit.wrap64; omega
  go_enter Go.Proofs.Tryz.func91, Go.Proofs.Tryz.ntmps91
  go_wp2
  go_ret
  exact ⟨rfl, rfl⟩
set_option maxHeartbeats 4000000 in
set_option maxRecDepth 100000 in
theorem slices_Grow_Lint64_int64.grow1 (w : World) (n : Nat) (h0 : 0 < n) (hn : n ≤ 1099511627776) (i : TypeInfo) (z : Value) (hi : Go.Proofs.Tryz.prog.info? 2 = some i) (hz : i.zero = some z) (hs : 0 < i.size) (hb : i.bytes ≤ 256) :
    Calls Go.Proofs.Tryz.prog 91 #[.slice none 0 0, .int .i64 (n : Int)] w fun e w' => ∃ G, n ≤ G ∧ G ≤ 9223372036854775807 ∧ e = .returned (.slice (some ⟨w.heap.size, 0, none⟩) 0 G) ∧ w' = w.drew.alloc (.cells (Builtin.zeroCells z.cells n ++ Builtin.zeroCells z.cells (G - n)) 2) := by
  have h1 : ¬ ((n : Int) < 0) := by omega
  have h2 : Go.RowKit.wrap64 (((0 : Nat) : Int) - ((0 : Nat) : Int)) = 0 := by unfold Go.RowKit.wrap64; omega
  have h3 : Go.RowKit.wrap64 ((n : Int) - 0) = (n : Int) := by unfold Go.RowKit.wrap64; omega
  have h4 : (n : Int) > 0 := by omega
  have hm : n * i.bytes ≤ 1099511627776 * 256 := Nat.mul_le_mul hn hb
  have hrz : ∀ ty, (Builtin.append_ #[25, 3] ty #[.slice none 0 0, .int .i64 (n : Int)]).run Go.Proofs.Tryz.prog w =
      .ok (.slice (some ⟨w.heap.size, 0, none⟩) n (grownCap w n 0 2)) (w.drew.alloc (.cells (Builtin.zeroCells z.cells n ++ Builtin.zeroCells z.cells (grownCap w n 0 2 - n)) 2)) := fun ty =>
    Lib.run_append_nil_zeros (P := Go.Proofs.Tryz.prog) w 25 3 ty 2 i z .i64 .i64 (by kernel_rfl) (by kernel_rfl) hi hz n h0 hs (by omega) (by omega)
  have hGn : n ≤ grownCap w n 0 2 := grownCap_ge w _ _ _
  obtain ⟨G, hG⟩ : ∃ G, G = grownCap w n 0 2 := ⟨_, rfl⟩
  have hG63 : G ≤ 9223372036854775807 := by
    have := grownCap_le_maxLen w n 0 2 (by unfold maxLen; omega)
    rw [← hG] at this
    unfold maxLen at this
    omega
  rw [← hG] at hrz hGn
  clear hG
  refine Calls.mono (R := fun e w' => e = .returned (.slice (some ⟨w.heap.size, 0, none⟩) 0 G) ∧ w' = w.drew.alloc (.cells (Builtin.zeroCells z.cells n ++ Builtin.zeroCells z.cells (G - n)) 2)) ?_ fun e w' h => ⟨G, hGn, hG63, h.1, h.2⟩
  clear hi hz hs hb hm
  go_enter Go.Proofs.Tryz.func91, Go.Proofs.Tryz.ntmps91
  go_wp2_with (at_builtin; refine Lib.wpList_append_run _ rfl _ _ _ _ rfl _ _ rfl rfl _ _ (hrz _) ?_)
  all_goals (go_ret; exact ⟨rfl, rfl⟩)
theorem slices_Grow_Lint64_int64.growOK : b2E Go.Proofs.Tryz.prog (91, tI) := by
  have hT : a2d tabl 2 = some ⟨false, tI, 0, []⟩ := by kernel_rfl
  obtain ⟨inf, h1, h2, h3, h4, h5⟩ := (tab_ok tab_good).info 2 _ hT
  exact growOK_of ⟨Go.Proofs.Tryz.f91, Go.Proofs.Tryz.func91, by kernel_rfl, by kernel_rfl⟩ (a6Z (tab_ok tab_good) hT) slices_Grow_Lint64_int64.grow0 fun w n a b => slices_Grow_Lint64_int64.grow1 w n a b inf _ h1 h5 (by rw [h2]; exact a4z _) h4
abbrev pS : PS := .val true TSheaf
abbrev pC : PS := .val true tQ
abbrev pQ : PS := .val false tQ
abbrev pL : PS := .val false tL
abbrev pI : PS := .val false tI
abbrev pM : PS := .val true TMatrix
abbrev qS : PS := .rptr TSheaf
abbrev qC : PS := .rptr tQ
abbrev qM : PS := .rptr TMatrix
abbrev oI : OutK × Ty × Vm.Mode := (.val false, tI, .deep)
abbrev oB : OutK × Ty × Vm.Mode := (.val false, .bool, .deep)
abbrev oL : OutK × Ty × Vm.Mode := (.val false, tL, .deep)
abbrev oQ : OutK × Ty × Vm.Mode := (.val false, tQ, .deep)
abbrev oC : OutK × Ty × Vm.Mode := (.val true, tQ, .deep)
abbrev oS : OutK × Ty × Vm.Mode := (.val true, TSheaf, .deep)
abbrev oM : OutK × Ty × Vm.Mode := (.val true, TMatrix, .deep)
abbrev bd (f : Func) : Code := f.body.getD .skip
abbrev cx (l : List Vm.Callee) : Ctx := ⟨a2d tabl, l, [], [], [], []⟩
abbrev cf (c : Ctx) : Cfg := ⟨c, [], [], fun _ => ([], []), fun _ => []⟩
abbrev cl (c : Ctx) (f : Nat → List Nat × List Nat) : Cfg := ⟨c, [], [], f, fun _ => []⟩
theorem nM {α : Type} {p : α → Prop} : ∀ x ∈ ([] : List α), p x := List.forall_mem_nil _
theorem cM {α : Type} {p : α → Prop} {a : α} {l : List α} (h : p a ∧ ∀ x ∈ l, p x) : ∀ x ∈ a :: l, p x := List.forall_mem_cons.2 h
theorem cok {l : List Vm.Callee} (h : ∀ e ∈ l, a3D prog e) : CtxOK prog (cx l) := ⟨nM, mixed_ok, tab_ok tab_good, h, nM, nM⟩
abbrev dD : TV := .dead

namespace Ad0
noncomputable def sig : Sig := ⟨[pL, pI], [oI]⟩
noncomputable def cfg : Cfg := cf (cx [])
noncomputable def fin := finK cfg.c sig [.tmp 4]
noncomputable def F (d : LI × Int × Unit) : OI := anyK (a9W cfg fin (bd f16) (a6v sig.ps d 12))
variable (a_1 : LI) (left_2 : Int)
noncomputable def T : OI := if (decide ((IntKind.i64.wrap (left_2 - (a_1.length : Int))) < 0)) = true then some (((-1 : Int), ()), ()) else some ((IntKind.i64.wrap (left_2 - (a_1.length : Int)), ()), ())
theorem eq : F (a_1, left_2, ()) = T a_1 left_2 := eq_any fun k => by kernel_rfl
theorem S : a3D prog ⟨16, sig, F⟩ := sound_k (res := [.tmp 4]) func16 (cok nM)
end Ad0
namespace Ak9
noncomputable def sig : Sig := ⟨[pM, pI], [oI]⟩
noncomputable def cfg : Cfg := cf (cx [⟨16, Ad0.sig, Ad0.F⟩])
noncomputable def fin := finK cfg.c sig [.tmp 4]
noncomputable def F (d : MX × Int × Unit) : OI := anyK (a9W cfg fin (bd f32) (a6v sig.ps d 12))
noncomputable def T (a_1 a_2 a_3 : Int) (a_4 : LI) (left_5 : Int) : OI := (Ad0.F (a_4, left_5, ())).bind fun r6 => if (decide (r6.1.1 < 0)) = true then some (((-1 : Int), ()), ()) else some ((r6.1.1, ()), ())
theorem eq (a_1 a_2 a_3 : Int) (a_4 : LI) (left_5 : Int) : F ((a_1, (a_2, (a_3, a_4))), left_5, ()) = T a_1 a_2 a_3 a_4 left_5 := eq_any fun k => by kernel_rfl
theorem S : a3D prog ⟨32, sig, F⟩ := sound_k (res := [.tmp 4]) func32 (cok (cM ⟨Ad0.S, nM⟩))
end Ak9
namespace Af3
noncomputable def sig : Sig := ⟨[.val false (.sl TMatrix), pI], [oI]⟩
noncomputable def cfg : Cfg := cl (cx [⟨32, Ak9.sig, Ak9.F⟩]) fun id => match id with | 5 => ([0, 1, 5], []) | _ => ([], [])
noncomputable def fin := finK cfg.c sig [.tmp 4]
noncomputable def F (d : LM × Int × Unit) : OI := anyK (a9W cfg fin (bd f10) (a6v sig.ps d 27))
variable (k : Nat) (x3 : LM) (i4 i5 : Int)
noncomputable def l5 : OI := Vm.runT cfg fin k [.inLoop (sub [1, 1, 1, 0, 1, 0, 0] (bd f10)), .inBlock 0, .code (sub [1, 1, 1, 1] (bd f10))] ⟨[.val false [⟨(.sl TMatrix), .sh, x3⟩], vI i4, dD, dD, dD, vI i5] ++ a8d 21, []⟩
theorem l5_eq : l5 (k + 1) x3 i4 i5 = if (decide (i5 < (x3.length : Int))) = true then if 0 ≤ i5 ∧ i5 < (x3.length : Int) then (Ak9.F (x3.getD i5.toNat (0, 0, 0, ([] : LI)), i4, ())).bind fun r6 => if (decide (r6.1.1 < 0)) = true then some (((-1 : Int), ()), ()) else l5 k x3 r6.1.1 (IntKind.i64.wrap (i5 + 1)) else none else some ((i4, ()), ()) := by kernel_rfl
variable (a_1 : LM) (left_2 : Int)
noncomputable def T : OI := if (decide ((IntKind.i64.wrap (left_2 - (a_1.length : Int))) < 0)) = true then some (((-1 : Int), ()), ()) else l5 k a_1 (IntKind.i64.wrap (left_2 - (a_1.length : Int))) (0 : Int)
theorem of {r} (h : Ev (fun k => T k a_1 left_2) r) : F (a_1, left_2, ()) = some r := Ev.run (fun k => by kernel_rfl) h
theorem S : a3D prog ⟨10, sig, F⟩ := sound_k (res := [.tmp 4]) func10 (cok (cM ⟨Ak9.S, nM⟩))
end Af3
namespace Af2
noncomputable def sig : Sig := ⟨[pQ, pI], [oI]⟩
noncomputable def cfg : Cfg := cl (cx [⟨16, Ad0.sig, Ad0.F⟩]) fun id => match id with | 5 => ([0, 1, 5], []) | _ => ([], [])
noncomputable def fin := finK cfg.c sig [.tmp 4]
noncomputable def F (d : LL × Int × Unit) : OI := anyK (a9W cfg fin (bd f44) (a6v sig.ps d 27))
variable (k : Nat) (x3 : LL) (i4 i5 : Int)
noncomputable def l5 : OI := Vm.runT cfg fin k [.inLoop (sub [1, 1, 1, 0, 1, 0, 0] (bd f44)), .inBlock 0, .code (sub [1, 1, 1, 1] (bd f44))] ⟨[vQ x3, vI i4, dD, dD, dD, vI i5] ++ a8d 21, []⟩
theorem l5_eq : l5 (k + 1) x3 i4 i5 = if (decide (i5 < (x3.length : Int))) = true then if 0 ≤ i5 ∧ i5 < (x3.length : Int) then (Ad0.F (x3.getD i5.toNat ([] : LI), i4, ())).bind fun r6 => if (decide (r6.1.1 < 0)) = true then some (((-1 : Int), ()), ()) else l5 k x3 r6.1.1 (IntKind.i64.wrap (i5 + 1)) else none else some ((i4, ()), ()) := by kernel_rfl
variable (a_1 : LL) (left_2 : Int)
noncomputable def T : OI := if (decide ((IntKind.i64.wrap (left_2 - (a_1.length : Int))) < 0)) = true then some (((-1 : Int), ()), ()) else l5 k a_1 (IntKind.i64.wrap (left_2 - (a_1.length : Int))) (0 : Int)
theorem of {r} (h : Ev (fun k => T k a_1 left_2) r) : F (a_1, left_2, ()) = some r := Ev.run (fun k => by kernel_rfl) h
theorem S : a3D prog ⟨44, sig, F⟩ := sound_k (res := [.tmp 4]) func44 (cok (cM ⟨Ad0.S, nM⟩))
end Af2
namespace Ak8
noncomputable def sig : Sig := ⟨[pC, pI], [oI]⟩
noncomputable def cfg : Cfg := cf (cx [⟨44, Af2.sig, Af2.F⟩])
noncomputable def fin := finK cfg.c sig [.tmp 4]
noncomputable def F (d : LL × Int × Unit) : OI := anyK (a9W cfg fin (bd f15) (a6v sig.ps d 12))
variable (a_1 : LL) (left_2 : Int)
noncomputable def T : OI := (Af2.F (a_1, left_2, ())).bind fun r3 => if (decide (r3.1.1 < 0)) = true then some (((-1 : Int), ()), ()) else some ((r3.1.1, ()), ())
theorem eq : F (a_1, left_2, ()) = T a_1 left_2 := eq_any fun k => by kernel_rfl
theorem S : a3D prog ⟨15, sig, F⟩ := sound_k (res := [.tmp 4]) func15 (cok (cM ⟨Af2.S, nM⟩))
end Ak8
namespace Ag1
noncomputable def sig : Sig := ⟨[pS, pI], [oI]⟩
noncomputable def cfg : Cfg := cf (cx [⟨10, Af3.sig, Af3.F⟩, ⟨15, Ak8.sig, Ak8.F⟩, ⟨16, Ad0.sig, Ad0.F⟩])
noncomputable def fin := finK cfg.c sig [.tmp 4]
noncomputable def F (d : SF × Int × Unit) : OI := anyK (a9W cfg fin (bd f5) (a6v sig.ps d 24))
noncomputable def T (a_1 : LL) (a_2 : Int) (a_3 : LI) (a_4 : LM) (left_5 : Int) : OI := (Ak8.F (a_1, left_5, ())).bind fun r6 => if (decide (r6.1.1 < 0)) = true then some (((-1 : Int), ()), ()) else (Ad0.F (a_3, r6.1.1, ())).bind fun r7 => if (decide (r7.1.1 < 0)) = true then some (((-1 : Int), ()), ()) else (Af3.F (a_4, r7.1.1, ())).bind fun r8 => if (decide (r8.1.1 < 0)) = true then some (((-1 : Int), ()), ()) else some ((r8.1.1, ()), ())
theorem eq (a_1 : LL) (a_2 : Int) (a_3 : LI) (a_4 : LM) (left_5 : Int) : F ((a_1, (a_2, (a_3, a_4))), left_5, ()) = T a_1 a_2 a_3 a_4 left_5 := eq_any fun k => by kernel_rfl
theorem S : a3D prog ⟨5, sig, F⟩ := sound_k (res := [.tmp 4]) func5 (cok (cM ⟨Af3.S, cM ⟨Ak8.S, cM ⟨Ad0.S, nM⟩⟩⟩))
end Ag1
namespace Ab7
noncomputable def sig : Sig := ⟨[qC, pI, pI], [oI]⟩
noncomputable def cfg : Cfg := cl (cx []) fun id => match id with | 3 => ([0, 1, 2, 7, 8], []) | _ => ([], [])
noncomputable def fin := finK cfg.c sig [.tmp 6]
noncomputable def F (d : LL × Int × Int × Unit) : OI := anyK (a9W cfg fin (bd f49) (a6v sig.ps d 36))
variable (k : Nat) (x4 : LL) (i5 i6 i7 i8 : Int)
noncomputable def l3 : OI := Vm.runT cfg fin k [.inLoop (sub [1, 1, 0, 1, 0, 0] (bd f49)), .inBlock 0, .code (sub [1, 1, 1] (bd f49))] ⟨[.rptr false [cQ x4], vI i5, vI i6, dD, dD, dD, dD, vI i7, vI i8] ++ a8d 27, []⟩
theorem l3_eq : l3 (k + 1) x4 i5 i6 i7 i8 = if (decide (i8 < i5)) = true then if 0 ≤ i8 ∧ i8 < (x4.length : Int) then if (decide (((x4.getD i8.toNat ([] : LI)).length : Int) > 1)) = true then if 0 ≤ i8 ∧ i8 < (x4.length : Int) then l3 k x4 i5 i6 (IntKind.i64.wrap (i7 + ((x4.getD i8.toNat ([] : LI)).length : Int))) (IntKind.i64.wrap (i8 + 1)) else none else l3 k x4 i5 i6 i7 (IntKind.i64.wrap (i8 + 1)) else none else some ((IntKind.i64.wrap (i7 + i6), ()), ()) := by kernel_rfl
variable (c_1 : LL) (simplex_2 i_3 : Int)
noncomputable def T : OI := l3 k c_1 simplex_2 i_3 (0 : Int) (0 : Int)
theorem of {r} (h : Ev (fun k => T k c_1 simplex_2 i_3) r) : F (c_1, simplex_2, i_3, ()) = some r := Ev.run (fun k => by kernel_rfl) h
theorem S : a3D prog ⟨49, sig, F⟩ := sound_k (res := [.tmp 6]) func49 (cok nM)
end Ab7
namespace Ac3
noncomputable def sig : Sig := ⟨[pL, pL], [oB]⟩
noncomputable def cfg : Cfg := cl (cx []) fun id => match id with | 4 => ([0, 1, 5], []) | _ => ([], [])
noncomputable def fin := finK cfg.c sig [.tmp 4]
noncomputable def F (d : LI × LI × Unit) : OB := anyK (a9W cfg fin (bd f76) (a6v sig.ps d 26))
variable (k : Nat) (x3 x4 : LI) (i5 : Int)
noncomputable def l4 : OB := Vm.runT cfg fin k [.inLoop (sub [1, 1, 0, 1, 0, 0] (bd f76)), .inBlock 0, .code (sub [1, 1, 1] (bd f76))] ⟨[vL x3, vL x4, dD, dD, dD, vI i5] ++ a8d 20, []⟩
theorem l4_eq : l4 (k + 1) x3 x4 i5 = if (decide (i5 < (x3.length : Int))) = true then if 0 ≤ i5 ∧ i5 < (x3.length : Int) then if 0 ≤ i5 ∧ i5 < (x4.length : Int) then if ((x3.getD i5.toNat 0 : Int) != (x4.getD i5.toNat 0 : Int)) = true then some ((false, ()), ()) else l4 k x3 x4 (IntKind.i64.wrap (i5 + 1)) else none else none else some ((true, ()), ()) := by kernel_rfl
variable (a_1 b_2 : LI)
noncomputable def T : OB := if ((a_1.length : Int) != (b_2.length : Int)) = true then some ((false, ()), ()) else l4 k a_1 b_2 (0 : Int)
theorem of {r} (h : Ev (fun k => T k a_1 b_2) r) : F (a_1, b_2, ()) = some r := Ev.run (fun k => by kernel_rfl) h
theorem S : a3D prog ⟨76, sig, F⟩ := sound_k (res := [.tmp 4]) func76 (cok nM)
end Ac3
namespace Ab4
noncomputable def sig : Sig := ⟨[qC, pL], [oI]⟩
noncomputable def cfg : Cfg := cl (cx [⟨76, Ac3.sig, Ac3.F⟩]) fun id => match id with | 2 => ([0, 1, 5], []) | _ => ([], [])
noncomputable def fin := finK cfg.c sig [.tmp 4]
noncomputable def F (d : LL × LI × Unit) : OI := anyK (a9W cfg fin (bd f47) (a6v sig.ps d 25))
variable (k : Nat) (x3 : LL) (x4 : LI) (i5 : Int)
noncomputable def l2 : OI := Vm.runT cfg fin k [.inLoop (sub [1, 0, 1, 0, 0] (bd f47)), .inBlock 0, .code (sub [1, 1] (bd f47))] ⟨[.rptr false [cQ x3], vL x4, dD, dD, dD, vI i5] ++ a8d 19, []⟩
theorem l2_eq : l2 (k + 1) x3 x4 i5 = if (decide (i5 < (x3.length : Int))) = true then if 0 ≤ i5 ∧ i5 < (x3.length : Int) then (Ac3.F (x3.getD i5.toNat ([] : LI), x4, ())).bind fun r6 => if r6.1.1 = true then some ((i5, ()), ()) else l2 k x3 x4 (IntKind.i64.wrap (i5 + 1)) else none else some (((-1 : Int), ()), ()) := by kernel_rfl
variable (c_1 : LL) (s_2 : LI)
noncomputable def T : OI := l2 k c_1 s_2 (0 : Int)
theorem of {r} (h : Ev (fun k => T k c_1 s_2) r) : F (c_1, s_2, ()) = some r := Ev.run (fun k => by kernel_rfl) h
theorem S : a3D prog ⟨47, sig, F⟩ := sound_k (res := [.tmp 4]) func47 (cok (cM ⟨Ac3.S, nM⟩))
end Ab4
namespace Ac2
noncomputable def sig : Sig := ⟨[pL], [oL]⟩
noncomputable def cfg : Cfg := cf (cx [])
noncomputable def fin := finK cfg.c sig [.tmp 2]
noncomputable def F (d : LI × Unit) : OL := anyK (a9W cfg fin (bd f52) (a6v sig.ps d 6))
variable (list_1 : LI)
noncomputable def T : OL := if ([] : LI).length + list_1.length ≤ bigA then some ((([] : LI) ++ list_1, ()), ()) else none
theorem eq : F (list_1, ()) = T list_1 := eq_any fun k => by kernel_rfl
theorem S : a3D prog ⟨52, sig, F⟩ := sound_k (res := [.tmp 2]) func52 (cok nM)
end Ac2
namespace Ae2
noncomputable def sig : Sig := ⟨[pL, pI], [oL]⟩
noncomputable def cfg : Cfg := cf (cx [⟨52, Ac2.sig, Ac2.F⟩])
noncomputable def fin := finK cfg.c sig [.tmp 4]
noncomputable def F (d : LI × Int × Unit) : OL := anyK (a9W cfg fin (bd f48) (a6v sig.ps d 16))
variable (s_1 : LI) (k_2 : Int)
noncomputable def T : OL := if 0 ≤ (0 : Int) ∧ (0 : Int) ≤ k_2 ∧ k_2 ≤ (s_1.length : Int) then (Ac2.F (cutL s_1 (0 : Int) k_2, ())).bind fun r3 => if 0 ≤ (IntKind.i64.wrap (k_2 + (1 : Int))) ∧ (IntKind.i64.wrap (k_2 + (1 : Int))) ≤ (s_1.length : Int) ∧ (s_1.length : Int) ≤ (s_1.length : Int) then if r3.1.1.length + (cutL s_1 (IntKind.i64.wrap (k_2 + (1 : Int))) (s_1.length : Int)).length ≤ bigA then some ((r3.1.1 ++ (cutL s_1 (IntKind.i64.wrap (k_2 + (1 : Int))) (s_1.length : Int)), ()), ()) else none else none else none
theorem eq : F (s_1, k_2, ()) = T s_1 k_2 := eq_any fun k => by kernel_rfl
theorem S : a3D prog ⟨48, sig, F⟩ := sound_k (res := [.tmp 4]) func48 (cok (cM ⟨Ac2.S, nM⟩))
end Ae2
namespace Aa4
noncomputable def sig : Sig := ⟨[pI, pI, pI], [oB]⟩
noncomputable def cfg : Cfg := cf (cx [])
noncomputable def fin := finK cfg.c sig [.tmp 6]
noncomputable def F (d : Int × Int × Int × Unit) : OB := anyK (a9W cfg fin (bd f136) (a6v sig.ps d 15))
variable (n_1 low_2 high_3 : Int)
noncomputable def T : OB := if (decide (n_1 ≥ low_2)) = true then some ((decide (n_1 ≤ high_3), ()), ()) else some ((false, ()), ())
theorem eq : F (n_1, low_2, high_3, ()) = T n_1 low_2 high_3 := eq_any fun k => by kernel_rfl
theorem S : a3D prog ⟨136, sig, F⟩ := sound_k (res := [.tmp 6]) func136 (cok nM)
end Aa4
namespace Ai3
noncomputable def sig : Sig := ⟨[pL, pI, pI], [oB]⟩
noncomputable def cfg : Cfg := cl (cx [⟨136, Aa4.sig, Aa4.F⟩]) fun id => match id with | 2 => ([0, 1, 2, 7], []) | _ => ([], [])
noncomputable def fin := finK cfg.c sig [.tmp 6]
noncomputable def F (d : LI × Int × Int × Unit) : OB := anyK (a9W cfg fin (bd f139) (a6v sig.ps d 38))
variable (k : Nat) (x4 : LI) (i5 i6 i7 : Int)
noncomputable def l2 : OB := Vm.runT cfg fin k [.inLoop (sub [1, 0, 1, 0, 0] (bd f139)), .inBlock 0, .code (sub [1, 1] (bd f139))] ⟨[vL x4, vI i5, vI i6, dD, dD, dD, dD, vI i7] ++ a8d 30, []⟩
theorem l2_eq : l2 (k + 1) x4 i5 i6 i7 = if (decide (i7 < (x4.length : Int))) = true then if 0 ≤ i7 ∧ i7 < (x4.length : Int) then (Aa4.F ((x4.getD i7.toNat 0 : Int), i5, i6, ())).bind fun r8 => if (!r8.1.1) = true then some ((false, ()), ()) else if (decide (i7 > 0)) = true then if 0 ≤ (IntKind.i64.wrap (i7 - 1)) ∧ (IntKind.i64.wrap (i7 - 1)) < (x4.length : Int) then if 0 ≤ i7 ∧ i7 < (x4.length : Int) then if (decide ((x4.getD (IntKind.i64.wrap (i7 - 1)).toNat 0) ≥ (x4.getD i7.toNat 0 : Int))) = true then some ((false, ()), ()) else l2 k x4 i5 i6 (IntKind.i64.wrap (i7 + 1)) else none else none else l2 k x4 i5 i6 (IntKind.i64.wrap (i7 + 1)) else none else some ((true, ()), ()) := by kernel_rfl
variable (list_1 : LI) (low_2 high_3 : Int)
noncomputable def T : OB := l2 k list_1 low_2 high_3 (0 : Int)
theorem of {r} (h : Ev (fun k => T k list_1 low_2 high_3) r) : F (list_1, low_2, high_3, ()) = some r := Ev.run (fun k => by kernel_rfl) h
theorem S : a3D prog ⟨139, sig, F⟩ := sound_k (res := [.tmp 6]) func139 (cok (cM ⟨Aa4.S, nM⟩))
end Ai3
namespace Al6
noncomputable def sig : Sig := ⟨[pL], [oB]⟩
noncomputable def cfg : Cfg := cf (cx [⟨136, Aa4.sig, Aa4.F⟩, ⟨139, Ai3.sig, Ai3.F⟩])
noncomputable def fin := finK cfg.c sig [.tmp 2]
noncomputable def F (d : LI × Unit) : OB := anyK (a9W cfg fin (bd f120) (a6v sig.ps d 10))
variable (s_1 : LI)
noncomputable def T : OB := (Aa4.F ((s_1.length : Int), (1 : Int), (4 : Int), ())).bind fun r2 => if r2.1.1 = true then (Ai3.F (s_1, (0 : Int), (9 : Int), ())).bind fun r3 => some ((r3.1.1, ()), ()) else some ((false, ()), ())
theorem eq : F (s_1, ()) = T s_1 := eq_any fun k => by kernel_rfl
theorem S : a3D prog ⟨120, sig, F⟩ := sound_k (res := [.tmp 2]) func120 (cok (cM ⟨Aa4.S, cM ⟨Ai3.S, nM⟩⟩))
end Al6
namespace Af5
noncomputable def sig : Sig := ⟨[pL, pL], [oB]⟩
noncomputable def cfg : Cfg := cl (cx []) fun id => match id with | 4 => ([0, 1, 5], []) | _ => ([], [])
noncomputable def fin := finK cfg.c sig [.tmp 4]
noncomputable def F (d : LI × LI × Unit) : OB := anyK (a9W cfg fin (bd f121) (a6v sig.ps d 40))
variable (k : Nat) (x3 x4 : LI) (i5 : Int)
noncomputable def l4 : OB := Vm.runT cfg fin k [.inLoop (sub [1, 1, 0, 1, 0, 0] (bd f121)), .inBlock 0, .code (sub [1, 1, 1] (bd f121))] ⟨[vL x3, vL x4, dD, dD, dD, vI i5] ++ a8d 34, []⟩
theorem l4_eq : l4 (k + 1) x3 x4 i5 = if (decide (i5 < (x3.length : Int))) = true then if 0 ≤ i5 ∧ i5 < (x3.length : Int) then if 0 ≤ i5 ∧ i5 < (x4.length : Int) then if ((x3.getD i5.toNat 0 : Int) != (x4.getD i5.toNat 0 : Int)) = true then if 0 ≤ i5 ∧ i5 < (x3.length : Int) then if 0 ≤ i5 ∧ i5 < (x4.length : Int) then some ((decide ((x3.getD i5.toNat 0 : Int) < (x4.getD i5.toNat 0 : Int)), ()), ()) else none else none else l4 k x3 x4 (IntKind.i64.wrap (i5 + 1)) else none else none else some ((false, ()), ()) := by kernel_rfl
variable (a_1 b_2 : LI)
noncomputable def T : OB := if ((a_1.length : Int) != (b_2.length : Int)) = true then some ((decide ((a_1.length : Int) < (b_2.length : Int)), ()), ()) else l4 k a_1 b_2 (0 : Int)
theorem of {r} (h : Ev (fun k => T k a_1 b_2) r) : F (a_1, b_2, ()) = some r := Ev.run (fun k => by kernel_rfl) h
theorem S : a3D prog ⟨121, sig, F⟩ := sound_k (res := [.tmp 4]) func121 (cok nM)
end Af5
namespace Ab0
noncomputable def sig : Sig := ⟨[qC], [oB]⟩
noncomputable def cfg : Cfg := cl (cx [⟨47, Ab4.sig, Ab4.F⟩, ⟨48, Ae2.sig, Ae2.F⟩, ⟨120, Al6.sig, Al6.F⟩, ⟨121, Af5.sig, Af5.F⟩]) fun id => match id with | 4 => ([0, 3], []) | 10 => ([0, 3, 4, 5], []) | _ => ([], [])
noncomputable def fin := finK cfg.c sig [.tmp 2]
noncomputable def F (d : LL × Unit) : OB := anyK (a9W cfg fin (bd f102) (a6v sig.ps d 65))
variable (k : Nat) (x2 : LL) (i3 : Int)
noncomputable def l4 : OB := Vm.runT cfg fin k [.inLoop (sub [1, 1, 0, 1, 0, 0] (bd f102)), .inBlock 0, .code (sub [1, 1, 1] (bd f102))] ⟨[.rptr false [cQ x2], dD, dD, vI i3] ++ a8d 61, []⟩
variable (x6 : LL) (i7 : Int) (x8 : LI) (i9 : Int)
noncomputable def l10 : OB := Vm.runT cfg fin k [.inLoop (sub [1, 1, 0, 1, 0, 0, 1, 0, 0, 1, 1, 1, 0, 0] (bd f102)), .inBlock 2, .inBlock 1, .code (sub [1, 1, 0, 1, 0, 0, 1, 1] (bd f102)), .inLoop (sub [1, 1, 0, 1, 0, 0] (bd f102)), .inBlock 0, .code (sub [1, 1, 1] (bd f102))] ⟨[.rptr false [cQ x6], dD, dD, vI i7, vL x8, vI i9] ++ a8d 59, []⟩
theorem l4_eq : l4 (k + 1) x2 i3 = if (decide (i3 < (x2.length : Int))) = true then if 0 ≤ i3 ∧ i3 < (x2.length : Int) then (Al6.F (x2.getD i3.toNat ([] : LI), ())).bind fun r4 => if (!r4.1.1) = true then some ((false, ()), ()) else if (decide (i3 > 0)) = true then if 0 ≤ (IntKind.i64.wrap (i3 - 1)) ∧ (IntKind.i64.wrap (i3 - 1)) < (x2.length : Int) then (Af5.F (x2.getD (IntKind.i64.wrap (i3 - 1)).toNat ([] : LI), x2.getD i3.toNat ([] : LI), ())).bind fun r5 => if (!r5.1.1) = true then some ((false, ()), ()) else l10 k x2 i3 (x2.getD i3.toNat ([] : LI)) (0 : Int) else none else l10 k x2 i3 (x2.getD i3.toNat ([] : LI)) (0 : Int) else none else some ((true, ()), ()) := by kernel_rfl
theorem l10_eq : l10 (k + 1) x6 i7 x8 i9 = if (decide (i9 < (x8.length : Int))) = true then if (decide ((x8.length : Int) > 1)) = true then (Ae2.F (x8, i9, ())).bind fun r10 => (Ab4.F (x6, r10.1.1, ())).bind fun r11 => if (decide (r11.1.1 < 0)) = true then some ((false, ()), ()) else l10 k x6 i7 x8 (IntKind.i64.wrap (i9 + 1)) else l4 k x6 (IntKind.i64.wrap (i7 + 1)) else l4 k x6 (IntKind.i64.wrap (i7 + 1)) := by kernel_rfl
variable (toArray_1 : LL)
noncomputable def T : OB := if (decide ((toArray_1.length : Int) > 48)) = true then some ((false, ()), ()) else l4 k toArray_1 (0 : Int)
theorem of {r} (h : Ev (fun k => T k toArray_1) r) : F (toArray_1, ()) = some r := Ev.run (fun k => by kernel_rfl) h
theorem S : a3D prog ⟨102, sig, F⟩ := sound_k (res := [.tmp 2]) func102 (cok (cM ⟨Ab4.S, cM ⟨Ae2.S, cM ⟨Al6.S, cM ⟨Af5.S, nM⟩⟩⟩⟩))
end Ab0
namespace Af4
noncomputable def sig : Sig := ⟨[pI], [oB]⟩
noncomputable def cfg : Cfg := cl (cx [⟨136, Aa4.sig, Aa4.F⟩]) fun id => match id with | 4 => ([0, 3], []) | _ => ([], [])
noncomputable def fin := finK cfg.c sig [.tmp 2]
noncomputable def F (d : Int × Unit) : OB := anyK (a9W cfg fin (bd f122) (a6v sig.ps d 18))
variable (k : Nat) (i3 i4 : Int)
noncomputable def l4 : OB := Vm.runT cfg fin k [.inLoop (sub [1, 1, 0, 1, 0, 0] (bd f122)), .inBlock 0, .code (sub [1, 1, 1] (bd f122))] ⟨[vI i3, dD, dD, vI i4] ++ a8d 14, []⟩
theorem l4_eq : l4 (k + 1) i3 i4 = if (decide ((IntKind.i64.wrap (i4 * i4)) ≤ i3)) = true then if i4 = 0 then none else if ((i3.tmod i4) == 0) = true then some ((false, ()), ()) else l4 k i3 (IntKind.i64.wrap (i4 + 1)) else some ((true, ()), ()) := by kernel_rfl
variable (p_1 : Int)
noncomputable def T : OB := (Aa4.F (p_1, (2 : Int), (251 : Int), ())).bind fun r2 => if (!r2.1.1) = true then some ((false, ()), ()) else l4 k p_1 (2 : Int)
theorem of {r} (h : Ev (fun k => T k p_1) r) : F (p_1, ()) = some r := Ev.run (fun k => by kernel_rfl) h
theorem S : a3D prog ⟨122, sig, F⟩ := sound_k (res := [.tmp 2]) func122 (cok (cM ⟨Aa4.S, nM⟩))
end Af4
namespace Ag2
noncomputable def sig : Sig := ⟨[pI], [oB]⟩
noncomputable def cfg : Cfg := cf (cx [⟨122, Af4.sig, Af4.F⟩])
noncomputable def fin := finK cfg.c sig [.tmp 2]
noncomputable def F (d : Int × Unit) : OB := anyK (a9W cfg fin (bd f103) (a6v sig.ps d 5))
variable (p_1 : Int)
noncomputable def T : OB := (Af4.F (p_1, ())).bind fun r2 => some ((r2.1.1, ()), ())
theorem eq : F (p_1, ()) = T p_1 := eq_any fun k => by kernel_rfl
theorem S : a3D prog ⟨103, sig, F⟩ := sound_k (res := [.tmp 2]) func103 (cok (cM ⟨Af4.S, nM⟩))
end Ag2
namespace Ad9
noncomputable def sig : Sig := ⟨[pL, pI, pI], [oB]⟩
noncomputable def cfg : Cfg := cl (cx [⟨136, Aa4.sig, Aa4.F⟩]) fun id => match id with | 2 => ([0, 1, 2, 7], []) | _ => ([], [])
noncomputable def fin := finK cfg.c sig [.tmp 6]
noncomputable def F (d : LI × Int × Int × Unit) : OB := anyK (a9W cfg fin (bd f123) (a6v sig.ps d 26))
variable (k : Nat) (x4 : LI) (i5 i6 i7 : Int)
noncomputable def l2 : OB := Vm.runT cfg fin k [.inLoop (sub [1, 0, 1, 0, 0] (bd f123)), .inBlock 0, .code (sub [1, 1] (bd f123))] ⟨[vL x4, vI i5, vI i6, dD, dD, dD, dD, vI i7] ++ a8d 18, []⟩
theorem l2_eq : l2 (k + 1) x4 i5 i6 i7 = if (decide (i7 < (x4.length : Int))) = true then if 0 ≤ i7 ∧ i7 < (x4.length : Int) then (Aa4.F ((x4.getD i7.toNat 0 : Int), (0 : Int), IntKind.i64.wrap (i6 - 1), ())).bind fun r8 => if (!r8.1.1) = true then some ((false, ()), ()) else l2 k x4 i5 i6 (IntKind.i64.wrap (i7 + 1)) else none else some (((x4.length : Int) == i5, ()), ()) := by kernel_rfl
variable (v_1 : LI) (n_2 p_3 : Int)
noncomputable def T : OB := l2 k v_1 n_2 p_3 (0 : Int)
theorem of {r} (h : Ev (fun k => T k v_1 n_2 p_3) r) : F (v_1, n_2, p_3, ()) = some r := Ev.run (fun k => by kernel_rfl) h
theorem S : a3D prog ⟨123, sig, F⟩ := sound_k (res := [.tmp 6]) func123 (cok (cM ⟨Aa4.S, nM⟩))
end Ad9
namespace Ai5
noncomputable def sig : Sig := ⟨[qC, pI], [oL]⟩
noncomputable def cfg : Cfg := cl (cx []) fun id => match id with | 3 => ([0, 1, 5, 6], [20]) | _ => ([], [])
noncomputable def fin := finK cfg.c sig [.tmp 4]
noncomputable def F (d : LL × Int × Unit) : OL := anyK (a9W cfg fin (bd f140) (a6v sig.ps d 33))
variable (k : Nat) (x3 : LL) (i4 i5 : Int) (x6 : LI)
noncomputable def l3 : OL := Vm.runT cfg fin k [.inLoop (sub [1, 1, 0, 1, 0, 0] (bd f140)), .inBlock 0, .code (sub [1, 1, 1] (bd f140))] ⟨[.rptr false [cQ x3], vI i4, dD, dD, dD, .view 20 (.root 0) 1 false, vI i5] ++ a8d 26, [(20, ⟨false, [dL x6]⟩)]⟩
theorem l3_eq : l3 (k + 1) x3 i4 i5 x6 = if (decide (i5 < (x3.length : Int))) = true then if 0 ≤ i5 ∧ i5 < (x3.length : Int) then if (((x3.getD i5.toNat ([] : LI)).length : Int) == (IntKind.i64.wrap (i4 + 1))) = true then if x6.length + [i5].length ≤ bigA then l3 k x3 i4 (IntKind.i64.wrap (i5 + 1)) (x6 ++ [i5]) else none else l3 k x3 i4 (IntKind.i64.wrap (i5 + 1)) x6 else none else some ((x6, ()), ()) := by kernel_rfl
variable (c_1 : LL) (dimension_2 : Int)
noncomputable def T : OL := l3 k c_1 dimension_2 (0 : Int) ([] : LI)
theorem of {r} (h : Ev (fun k => T k c_1 dimension_2) r) : F (c_1, dimension_2, ()) = some r := Ev.run (fun k => by kernel_rfl) h
theorem S : a3D prog ⟨140, sig, F⟩ := sound_k (res := [.tmp 4]) func140 (cok nM)
end Ai5
namespace Ag4
noncomputable def sig : Sig := ⟨[qC, pL, pI], [oI]⟩
noncomputable def cfg : Cfg := cl (cx [⟨140, Ai5.sig, Ai5.F⟩]) fun id => match id with | 4 => ([1, 7, 8, 9], [28]) | _ => ([], [])
noncomputable def fin := finK cfg.c sig [.tmp 6]
noncomputable def F (d : LL × LI × Int × Unit) : OI := anyK (a9W cfg fin (bd f124) (a6v sig.ps d 29))
variable (k : Nat) (x5 : LI) (i6 i7 : Int) (x8 : LI)
noncomputable def l4 : OI := Vm.runT cfg fin k [.inLoop (sub [1, 1, 1, 0, 1, 0, 0] (bd f124)), .inBlock 0, .code (sub [1, 1, 1, 1] (bd f124))] ⟨[dD, vL x5, dD, dD, dD, dD, dD, .view 28 (.root 0) 1 false, vI i6, vI i7] ++ a8d 19, [(28, ⟨false, [dL x8]⟩)]⟩
theorem l4_eq : l4 (k + 1) x5 i6 i7 x8 = if (decide (i7 < (x8.length : Int))) = true then if 0 ≤ i7 ∧ i7 < (x8.length : Int) then if 0 ≤ (x8.getD i7.toNat 0 : Int) ∧ (x8.getD i7.toNat 0 : Int) < (x5.length : Int) then l4 k x5 (IntKind.i64.wrap (i6 + (x5.getD (x8.getD i7.toNat 0 : Int).toNat 0))) (IntKind.i64.wrap (i7 + 1)) x8 else none else none else some ((i6, ()), ()) := by kernel_rfl
variable (c_1 : LL) (stalks_2 : LI) (k_3 : Int)
noncomputable def T : OI := (Ai5.F (c_1, k_3, ())).bind fun r4 => l4 k stalks_2 (0 : Int) (0 : Int) r4.1.1
theorem of {r} (h : Ev (fun k => T k c_1 stalks_2 k_3) r) : F (c_1, stalks_2, k_3, ()) = some r := Ev.run (fun k => by kernel_rfl) h
theorem S : a3D prog ⟨124, sig, F⟩ := sound_k (res := [.tmp 6]) func124 (cok (cM ⟨Ai5.S, nM⟩))
end Ag4
namespace Af7
noncomputable def sig : Sig := ⟨[qC, pL], [oB]⟩
noncomputable def cfg : Cfg := cl (cx [⟨123, Ad9.sig, Ad9.F⟩, ⟨124, Ag4.sig, Ag4.F⟩]) fun id => match id with | 4 => ([0, 1, 5], []) | _ => ([], [])
noncomputable def fin := finK cfg.c sig [.tmp 4]
noncomputable def F (d : LL × LI × Unit) : OB := anyK (a9W cfg fin (bd f104) (a6v sig.ps d 23))
variable (k : Nat) (x4 : LL) (x5 : LI) (i6 : Int)
noncomputable def l4 : OB := Vm.runT cfg fin k [.inLoop (sub [1, 1, 0, 1, 0, 0] (bd f104)), .inBlock 0, .code (sub [1, 1, 1] (bd f104))] ⟨[.rptr false [cQ x4], vL x5, dD, dD, dD, vI i6] ++ a8d 17, []⟩
theorem l4_eq : l4 (k + 1) x4 x5 i6 = if (decide (i6 ≤ 3)) = true then (Ag4.F (x4, x5, i6, ())).bind fun r7 => if (decide (r7.1.1 > 32)) = true then some ((false, ()), ()) else l4 k x4 x5 (IntKind.i64.wrap (i6 + 1)) else some ((true, ()), ()) := by kernel_rfl
variable (c_1 : LL) (stalks_2 : LI)
noncomputable def T : OB := (Ad9.F (stalks_2, (c_1.length : Int), (4 : Int), ())).bind fun r3 => if (!r3.1.1) = true then some ((false, ()), ()) else l4 k c_1 stalks_2 (0 : Int)
theorem of {r} (h : Ev (fun k => T k c_1 stalks_2) r) : F (c_1, stalks_2, ()) = some r := Ev.run (fun k => by kernel_rfl) h
theorem S : a3D prog ⟨104, sig, F⟩ := sound_k (res := [.tmp 4]) func104 (cok (cM ⟨Ad9.S, cM ⟨Ag4.S, nM⟩⟩))
end Af7
namespace Am3
noncomputable def sig : Sig := ⟨[qC], [oI]⟩
noncomputable def cfg : Cfg := cf (cx [⟨49, Ab7.sig, Ab7.F⟩])
noncomputable def fin := finK cfg.c sig [.tmp 2]
noncomputable def F (d : LL × Unit) : OI := anyK (a9W cfg fin (bd f105) (a6v sig.ps d 10))
variable (c_1 : LL)
noncomputable def T : OI := (Ab7.F (c_1, (c_1.length : Int), (0 : Int), ())).bind fun r2 => some ((r2.1.1, ()), ())
theorem eq : F (c_1, ()) = T c_1 := eq_any fun k => by kernel_rfl
theorem S : a3D prog ⟨105, sig, F⟩ := sound_k (res := [.tmp 2]) func105 (cok (cM ⟨Ab7.S, nM⟩))
end Am3
namespace Ab3
noncomputable def sig : Sig := ⟨[qC, pI], [oL]⟩
noncomputable def cfg : Cfg := cl (cx [⟨47, Ab4.sig, Ab4.F⟩, ⟨48, Ae2.sig, Ae2.F⟩]) fun id => match id with | 4 => ([0, 5, 6, 7], [24]) | _ => ([], [])
noncomputable def fin := finK cfg.c sig [.tmp 4]
noncomputable def F (d : LL × Int × Unit) : OL := anyK (a9W cfg fin (bd f18) (a6v sig.ps d 36))
variable (k : Nat) (x3 : LL) (x4 : LI) (i5 : Int) (x6 : LI)
noncomputable def l4 : OL := Vm.runT cfg fin k [.inLoop (sub [1, 1, 1, 0, 1, 0, 0] (bd f18)), .inBlock 0, .code (sub [1, 1, 1, 1] (bd f18))] ⟨[.rptr false [cQ x3], dD, dD, dD, dD, vL x4, .view 24 (.root 0) 1 false, vI i5] ++ a8d 28, [(24, ⟨false, [dL x6]⟩)]⟩
theorem l4_eq : l4 (k + 1) x3 x4 i5 x6 = if (decide (i5 < (x4.length : Int))) = true then if (decide ((x4.length : Int) > 1)) = true then (Ae2.F (x4, i5, ())).bind fun r7 => (Ab4.F (x3, r7.1.1, ())).bind fun r8 => if x6.length + [r8.1.1].length ≤ bigA then l4 k x3 x4 (IntKind.i64.wrap (i5 + 1)) (x6 ++ [r8.1.1]) else none else some ((x6, ()), ()) else some ((x6, ()), ()) := by kernel_rfl
variable (c_1 : LL) (k_2 : Int)
noncomputable def T : OL := if 0 ≤ k_2 ∧ k_2 < (c_1.length : Int) then l4 k c_1 (c_1.getD k_2.toNat ([] : LI)) (0 : Int) ([] : LI) else none
theorem of {r} (h : Ev (fun k => T k c_1 k_2) r) : F (c_1, k_2, ()) = some r := Ev.run (fun k => by kernel_rfl) h
theorem S : a3D prog ⟨18, sig, F⟩ := sound_k (res := [.tmp 4]) func18 (cok (cM ⟨Ab4.S, cM ⟨Ae2.S, nM⟩⟩))
end Ab3
namespace Al4
noncomputable def sig : Sig := ⟨[qM], [oB]⟩
noncomputable def cfg : Cfg := cf (cx [⟨103, Ag2.sig, Ag2.F⟩, ⟨123, Ad9.sig, Ad9.F⟩, ⟨136, Aa4.sig, Aa4.F⟩])
noncomputable def fin := finK cfg.c sig [.tmp 2]
noncomputable def F (d : MX × Unit) : OB := anyK (a9W cfg fin (bd f116) (a6v sig.ps d 42))
variable (m_1 m_2 m_3 : Int) (m_4 : LI)
noncomputable def T : OB := (Ag2.F (m_1, ())).bind fun r5 => if r5.1.1 = true then (Aa4.F (m_2, (0 : Int), (32 : Int), ())).bind fun r6 => if r6.1.1 = true then (Aa4.F (m_3, (0 : Int), (32 : Int), ())).bind fun r7 => if r7.1.1 = true then (Ad9.F (m_4, IntKind.i64.wrap (m_2 * m_3), m_1, ())).bind fun r8 => some ((r8.1.1, ()), ()) else some ((false, ()), ()) else some ((false, ()), ()) else some ((false, ()), ())
theorem eq : F ((m_1, (m_2, (m_3, m_4))), ()) = T m_1 m_2 m_3 m_4 := eq_any fun k => by kernel_rfl
theorem S : a3D prog ⟨116, sig, F⟩ := sound_k (res := [.tmp 2]) func116 (cok (cM ⟨Ag2.S, cM ⟨Ad9.S, cM ⟨Aa4.S, nM⟩⟩⟩))
end Al4
namespace Al7
noncomputable def sig : Sig := ⟨[qS, pI, pI, qM], [oB]⟩
noncomputable def cfg : Cfg := cf (cx [⟨18, Ab3.sig, Ab3.F⟩, ⟨116, Al4.sig, Al4.F⟩])
noncomputable def fin := finK cfg.c sig [.tmp 8]
noncomputable def F (d : SF × Int × Int × MX × Unit) : OB := anyK (a9W cfg fin (bd f106) (a6v sig.ps d 59))
noncomputable def T (s_1 : LL) (s_2 : Int) (s_3 : LI) (s_4 : LM) (simplex_5 i_6 m_7 m_8 m_9 : Int) (m_10 : LI) : OB := (Ab3.F (s_1, simplex_5, ())).bind fun r11 => if 0 ≤ i_6 ∧ i_6 < (r11.1.1.length : Int) then (Al4.F ((m_7, (m_8, (m_9, m_10))), ())).bind fun r12 => if r12.1.1 = true then if (m_7 == s_2) = true then if 0 ≤ simplex_5 ∧ simplex_5 < (s_3.length : Int) then if (m_8 == (s_3.getD simplex_5.toNat 0 : Int)) = true then if 0 ≤ (r11.1.1.getD i_6.toNat 0 : Int) ∧ (r11.1.1.getD i_6.toNat 0 : Int) < (s_3.length : Int) then some ((m_9 == (s_3.getD (r11.1.1.getD i_6.toNat 0 : Int).toNat 0), ()), ()) else none else some ((false, ()), ()) else none else some ((false, ()), ()) else some ((false, ()), ()) else none
theorem eq (s_1 : LL) (s_2 : Int) (s_3 : LI) (s_4 : LM) (simplex_5 i_6 m_7 m_8 m_9 : Int) (m_10 : LI) : F ((s_1, (s_2, (s_3, s_4))), simplex_5, i_6, (m_7, (m_8, (m_9, m_10))), ()) = T s_1 s_2 s_3 s_4 simplex_5 i_6 m_7 m_8 m_9 m_10 := eq_any fun k => by kernel_rfl
theorem S : a3D prog ⟨106, sig, F⟩ := sound_k (res := [.tmp 8]) func106 (cok (cM ⟨Ab3.S, cM ⟨Al4.S, nM⟩⟩))
end Al7
namespace Aa5
noncomputable def sig : Sig := ⟨[qS], [oB]⟩
noncomputable def cfg : Cfg := cl (cx [⟨49, Ab7.sig, Ab7.F⟩, ⟨102, Ab0.sig, Ab0.F⟩, ⟨103, Ag2.sig, Ag2.F⟩, ⟨104, Af7.sig, Af7.F⟩, ⟨105, Am3.sig, Am3.F⟩, ⟨106, Al7.sig, Al7.F⟩]) fun id => match id with | 4 => ([0, 3], []) | 7 => ([0, 3, 4], []) | _ => ([], [])
noncomputable def fin := finK cfg.c sig [.tmp 2]
noncomputable def F (d : SF × Unit) : OB := anyK (a9W cfg fin (bd f74) (a6v sig.ps d 92))
variable (k : Nat) (x9 : LL) (i10 : Int) (x11 : LI) (x12 : LM) (i13 : Int)
noncomputable def l4 : OB := Vm.runT cfg fin k [.inLoop (sub [1, 1, 0, 1, 0, 0] (bd f74)), .inBlock 0, .code (sub [1, 1, 1] (bd f74))] ⟨[.rptr false [cQ x9, cI i10, cL x11, ⟨(.sl TMatrix), .sh, x12⟩], dD, dD, vI i13] ++ a8d 88, []⟩
variable (x14 : LL) (i15 : Int) (x16 : LI) (x17 : LM) (i18 i19 : Int)
noncomputable def l7 : OB := Vm.runT cfg fin k [.inLoop (sub [1, 1, 0, 1, 0, 0, 1, 0, 0, 1, 0, 0] (bd f74)), .inBlock 2, .inBlock 1, .code (sub [1, 1, 0, 1, 0, 0, 1, 1] (bd f74)), .inLoop (sub [1, 1, 0, 1, 0, 0] (bd f74)), .inBlock 0, .code (sub [1, 1, 1] (bd f74))] ⟨[.rptr false [cQ x14, cI i15, cL x16, ⟨(.sl TMatrix), .sh, x17⟩], dD, dD, vI i18, vI i19] ++ a8d 87, []⟩
theorem l4_eq : l4 (k + 1) x9 i10 x11 x12 i13 = if (decide (i13 < (x9.length : Int))) = true then l7 k x9 i10 x11 x12 i13 (0 : Int) else some ((true, ()), ()) := by kernel_rfl
theorem l7_eq : l7 (k + 1) x14 i15 x16 x17 i18 i19 = if 0 ≤ i18 ∧ i18 < (x14.length : Int) then if (decide (i19 < ((x14.getD i18.toNat ([] : LI)).length : Int))) = true then if 0 ≤ i18 ∧ i18 < (x14.length : Int) then if (decide (((x14.getD i18.toNat ([] : LI)).length : Int) > 1)) = true then (Ab7.F (x14, i18, i19, ())).bind fun r20 => if 0 ≤ r20.1.1 ∧ r20.1.1 < (x17.length : Int) then (Al7.F ((x14, (i15, (x16, x17))), i18, i19, x17.getD r20.1.1.toNat (0, 0, 0, ([] : LI)), ())).bind fun r21 => if (!r21.1.1) = true then some ((false, ()), ()) else l7 k x14 i15 x16 x17 i18 (IntKind.i64.wrap (i19 + 1)) else none else l4 k x14 i15 x16 x17 (IntKind.i64.wrap (i18 + 1)) else none else l4 k x14 i15 x16 x17 (IntKind.i64.wrap (i18 + 1)) else none := by kernel_rfl
variable (toArray_1 : LL) (toArray_2 : Int) (toArray_3 : LI) (toArray_4 : LM)
noncomputable def T : OB := (Ab0.F (toArray_1, ())).bind fun r5 => if (!r5.1.1) = true then some ((false, ()), ()) else (Ag2.F (toArray_2, ())).bind fun r6 => if (!r6.1.1) = true then some ((false, ()), ()) else (Af7.F (toArray_1, toArray_3, ())).bind fun r7 => if (!r7.1.1) = true then some ((false, ()), ()) else (Am3.F (toArray_1, ())).bind fun r8 => if ((toArray_4.length : Int) != r8.1.1) = true then some ((false, ()), ()) else l4 k toArray_1 toArray_2 toArray_3 toArray_4 (0 : Int)
theorem of {r} (h : Ev (fun k => T k toArray_1 toArray_2 toArray_3 toArray_4) r) : F ((toArray_1, (toArray_2, (toArray_3, toArray_4))), ()) = some r := Ev.run (fun k => by kernel_rfl) h
theorem S : a3D prog ⟨74, sig, F⟩ := sound_k (res := [.tmp 2]) func74 (cok (cM ⟨Ab7.S, cM ⟨Ab0.S, cM ⟨Ag2.S, cM ⟨Af7.S, cM ⟨Am3.S, cM ⟨Al7.S, nM⟩⟩⟩⟩⟩⟩))
end Aa5
namespace Aa7
noncomputable def sig : Sig := ⟨[qS, pI, pI], [(.ptr, TMatrix, .sh)]⟩
noncomputable def cfg : Cfg := cf (cx [⟨49, Ab7.sig, Ab7.F⟩])
noncomputable def fin := finK cfg.c sig [.tmp 6]
noncomputable def F (d : SF × Int × Int × Unit) : OM := anyK (a9W cfg fin (bd f19) (a6v sig.ps d 18))
noncomputable def T (s_1 : LL) (s_2 : Int) (s_3 : LI) (s_4 : LM) (simplex_5 i_6 : Int) : OM := (Ab7.F (s_1, simplex_5, i_6, ())).bind fun r7 => if 0 ≤ r7.1.1 ∧ r7.1.1 < (s_4.length : Int) then some ((s_4.getD r7.1.1.toNat (0, 0, 0, ([] : LI)), ()), ()) else none
theorem eq (s_1 : LL) (s_2 : Int) (s_3 : LI) (s_4 : LM) (simplex_5 i_6 : Int) : F ((s_1, (s_2, (s_3, s_4))), simplex_5, i_6, ()) = T s_1 s_2 s_3 s_4 simplex_5 i_6 := eq_any fun k => by kernel_rfl
theorem S : a3D prog ⟨19, sig, F⟩ := sound_k (res := [.tmp 6]) func19 (cok (cM ⟨Ab7.S, nM⟩))
end Aa7
namespace Al5
noncomputable def sig : Sig := ⟨[pI, pI, pI], [oM]⟩
noncomputable def cfg : Cfg := cf (cx [])
noncomputable def fin := finK cfg.c sig [.cell 6 53]
noncomputable def F (d : Int × Int × Int × Unit) : OM := anyK (a9W cfg fin (bd f67) (a6v sig.ps d 15))
variable (p_1 rows_2 columns_3 : Int)
noncomputable def T : OM := if 0 ≤ (IntKind.i64.wrap (rows_2 * columns_3)) ∧ (IntKind.i64.wrap (rows_2 * columns_3)) ≤ (bigN : Int) then some (((p_1, (rows_2, (columns_3, List.replicate (IntKind.i64.wrap (rows_2 * columns_3)).toNat (0 : Int)))), ()), ()) else none
theorem eq : F (p_1, rows_2, columns_3, ()) = T p_1 rows_2 columns_3 := eq_any fun k => by kernel_rfl
theorem S : a3D prog ⟨67, sig, F⟩ := sound_k (res := [.cell 6 53]) func67 (cok nM)
end Al5
namespace Ac5
noncomputable def sig : Sig := ⟨[qM, qM], [oM]⟩
noncomputable def cfg : Cfg := cl (cx [⟨67, Al5.sig, Al5.F⟩]) fun id => match id with | 3 => ([0, 1, 4, 5, 6], [16, 20]) | 6 => ([0, 1, 4, 5, 6, 7], [16, 20]) | 10 => ([0, 1, 4, 5, 6, 7, 8, 9], [16, 20]) | _ => ([], [])
noncomputable def fin := finK cfg.c sig [.cell 4 53]
noncomputable def F (d : MX × MX × Unit) : OM := anyK (a9W cfg fin (bd f34) (a6v sig.ps d 96))
variable (k : Nat) (i10 i11 i12 : Int) (x13 : LI) (i14 i15 i16 : Int) (x17 : LI) (i18 i19 i20 i21 : Int) (x22 : LI) (i23 i24 i25 : Int) (x26 : LI)
noncomputable def l3 : OM := Vm.runT cfg fin k [.inLoop (sub [1, 1, 0, 1, 0, 0] (bd f34)), .inBlock 0, .code (sub [1, 1, 1] (bd f34))] ⟨[.rptr false [cI i10, cI i11, cI i12, cL x13], .rptr false [cI i14, cI i15, cI i16, cL x17], dD, dD, .ref 16 (.root 0), .ref 20 (.root 0), vI i18] ++ a8d 89, [(16, ⟨true, [cI i19, cI i20, cI i21, dL x22]⟩), (20, ⟨true, [cI i23, cI i24, cI i25, dL x26]⟩)]⟩
variable (i27 i28 i29 : Int) (x30 : LI) (i31 i32 i33 : Int) (x34 : LI) (i35 i36 i37 i38 i39 : Int) (x40 : LI) (i41 i42 i43 : Int) (x44 : LI)
noncomputable def l6 : OM := Vm.runT cfg fin k [.inLoop (sub [1, 1, 0, 1, 0, 0, 1, 0, 0, 1, 0, 0] (bd f34)), .inBlock 2, .inBlock 1, .code (sub [1, 1, 0, 1, 0, 0, 1, 1] (bd f34)), .inLoop (sub [1, 1, 0, 1, 0, 0] (bd f34)), .inBlock 0, .code (sub [1, 1, 1] (bd f34))] ⟨[.rptr false [cI i27, cI i28, cI i29, cL x30], .rptr false [cI i31, cI i32, cI i33, cL x34], dD, dD, .ref 16 (.root 0), .ref 20 (.root 0), vI i35, vI i36] ++ a8d 88, [(16, ⟨true, [cI i37, cI i38, cI i39, dL x40]⟩), (20, ⟨true, [cI i41, cI i42, cI i43, dL x44]⟩)]⟩
variable (i45 i46 i47 : Int) (x48 : LI) (i49 i50 i51 : Int) (x52 : LI) (i53 i54 i55 i56 i57 i58 i59 : Int) (x60 : LI) (i61 i62 i63 : Int) (x64 : LI)
noncomputable def l10 : OM := Vm.runT cfg fin k [.inLoop (sub [1, 1, 0, 1, 0, 0, 1, 0, 0, 1, 0, 0, 1, 0, 0, 1, 0, 1, 0, 0] (bd f34)), .inBlock 4, .code (sub [1, 1, 0, 1, 0, 0, 1, 0, 0, 1, 0, 0, 1, 0, 0, 1, 1] (bd f34)), .inBlock 3, .code (sub [1, 1, 0, 1, 0, 0, 1, 0, 0, 1, 0, 0, 1, 1] (bd f34)), .inLoop (sub [1, 1, 0, 1, 0, 0, 1, 0, 0, 1, 0, 0] (bd f34)), .inBlock 2, .inBlock 1, .code (sub [1, 1, 0, 1, 0, 0, 1, 1] (bd f34)), .inLoop (sub [1, 1, 0, 1, 0, 0] (bd f34)), .inBlock 0, .code (sub [1, 1, 1] (bd f34))] ⟨[.rptr false [cI i45, cI i46, cI i47, cL x48], .rptr false [cI i49, cI i50, cI i51, cL x52], dD, dD, .ref 16 (.root 0), .ref 20 (.root 0), vI i53, vI i54, vI i55, vI i56] ++ a8d 86, [(16, ⟨true, [cI i57, cI i58, cI i59, dL x60]⟩), (20, ⟨true, [cI i61, cI i62, cI i63, dL x64]⟩)]⟩
theorem l3_eq : l3 (k + 1) i10 i11 i12 x13 i14 i15 i16 x17 i18 i19 i20 i21 x22 i23 i24 i25 x26 = if (decide (i18 < i11)) = true then l6 k i10 i11 i12 x13 i14 i15 i16 x17 i18 (0 : Int) i19 i20 i21 x22 i23 i24 i25 x26 else some (((i23, (i24, (i25, x26))), ()), ()) := by kernel_rfl
theorem l6_eq : l6 (k + 1) i27 i28 i29 x30 i31 i32 i33 x34 i35 i36 i37 i38 i39 x40 i41 i42 i43 x44 = if (decide (i36 < i33)) = true then l10 k i27 i28 i29 x30 i31 i32 i33 x34 i35 i36 (0 : Int) (0 : Int) i37 i38 i39 x40 i41 i42 i43 x44 else l3 k i27 i28 i29 x30 i31 i32 i33 x34 (IntKind.i64.wrap (i35 + 1)) i37 i38 i39 x40 i41 i42 i43 x44 := by kernel_rfl
theorem l10_eq : l10 (k + 1) i45 i46 i47 x48 i49 i50 i51 x52 i53 i54 i55 i56 i57 i58 i59 x60 i61 i62 i63 x64 = if (decide (i56 < i47)) = true then if 0 ≤ (IntKind.i64.wrap ((IntKind.i64.wrap (i53 * i47)) + i56)) ∧ (IntKind.i64.wrap ((IntKind.i64.wrap (i53 * i47)) + i56)) < (x48.length : Int) then if 0 ≤ (IntKind.i64.wrap ((IntKind.i64.wrap (i56 * i51)) + i54)) ∧ (IntKind.i64.wrap ((IntKind.i64.wrap (i56 * i51)) + i54)) < (x52.length : Int) then l10 k i45 i46 i47 x48 i49 i50 i51 x52 i53 i54 (IntKind.i64.wrap (i55 + (IntKind.i64.wrap ((x48.getD (IntKind.i64.wrap ((IntKind.i64.wrap (i53 * i47)) + i56)).toNat 0 : Int) * (x52.getD (IntKind.i64.wrap ((IntKind.i64.wrap (i56 * i51)) + i54)).toNat 0 : Int))))) (IntKind.i64.wrap (i56 + 1)) i57 i58 i59 x60 i61 i62 i63 x64 else none else none else if i45 = 0 then none else if 0 ≤ (IntKind.i64.wrap ((IntKind.i64.wrap (i53 * i51)) + i54)) ∧ (IntKind.i64.wrap ((IntKind.i64.wrap (i53 * i51)) + i54)) < (x64.length : Int) then l6 k i45 i46 i47 x48 i49 i50 i51 x52 i53 (IntKind.i64.wrap (i54 + 1)) i57 i58 i59 x60 i61 i62 i63 (x64.set (IntKind.i64.wrap ((IntKind.i64.wrap (i53 * i51)) + i54)).toNat (i55.tmod i45)) else none := by kernel_rfl
variable (toArray_1 toArray_2 toArray_3 : Int) (toArray_4 : LI) (a_5 a_6 a_7 : Int) (a_8 : LI)
noncomputable def T : OM := (Al5.F (toArray_1, toArray_2, a_7, ())).bind fun r9 => l3 k toArray_1 toArray_2 toArray_3 toArray_4 a_5 a_6 a_7 a_8 (0 : Int) 0 0 0 ([]) r9.1.1.1 r9.1.1.2.1 r9.1.1.2.2.1 r9.1.1.2.2.2
theorem of {r} (h : Ev (fun k => T k toArray_1 toArray_2 toArray_3 toArray_4 a_5 a_6 a_7 a_8) r) : F ((toArray_1, (toArray_2, (toArray_3, toArray_4))), (a_5, (a_6, (a_7, a_8))), ()) = some r := Ev.run (fun k => by kernel_rfl) h
theorem S : a3D prog ⟨34, sig, F⟩ := sound_k (res := [.cell 4 53]) func34 (cok (cM ⟨Al5.S, nM⟩))
end Ac5
namespace Ae4
noncomputable def sig : Sig := ⟨[qS, pI, pI, pI], [oM]⟩
noncomputable def cfg : Cfg := cf (cx [⟨18, Ab3.sig, Ab3.F⟩, ⟨19, Aa7.sig, Aa7.F⟩, ⟨34, Ac5.sig, Ac5.F⟩])
noncomputable def fin := finK cfg.c sig [.cell 8 53]
noncomputable def F (d : SF × Int × Int × Int × Unit) : OM := anyK (a9W cfg fin (bd f107) (a6v sig.ps d 32))
variable (s_1 : LL) (s_2 : Int) (s_3 : LI) (s_4 : LM) (simplex_5 i_6 j_7 : Int)
noncomputable def T : OM := (Ab3.F (s_1, simplex_5, ())).bind fun r8 => if 0 ≤ i_6 ∧ i_6 < (r8.1.1.length : Int) then if (decide (j_7 > i_6)) = true then (Aa7.F ((s_1, (s_2, (s_3, s_4))), simplex_5, i_6, ())).bind fun r9 => (Aa7.F ((s_1, (s_2, (s_3, s_4))), (r8.1.1.getD i_6.toNat 0 : Int), IntKind.i64.wrap (j_7 - (1 : Int)), ())).bind fun r10 => (Ac5.F (r9.1.1, r10.1.1, ())).bind fun r11 => some ((r11.1.1, ()), ()) else (Aa7.F ((s_1, (s_2, (s_3, s_4))), simplex_5, i_6, ())).bind fun r12 => (Aa7.F ((s_1, (s_2, (s_3, s_4))), (r8.1.1.getD i_6.toNat 0 : Int), j_7, ())).bind fun r13 => (Ac5.F (r12.1.1, r13.1.1, ())).bind fun r14 => some ((r14.1.1, ()), ()) else none
theorem eq : F ((s_1, (s_2, (s_3, s_4))), simplex_5, i_6, j_7, ()) = T s_1 s_2 s_3 s_4 simplex_5 i_6 j_7 := eq_any fun k => by kernel_rfl
theorem S : a3D prog ⟨107, sig, F⟩ := sound_k (res := [.cell 8 53]) func107 (cok (cM ⟨Ab3.S, cM ⟨Aa7.S, cM ⟨Ac5.S, nM⟩⟩⟩))
end Ae4
namespace Ac4
noncomputable def sig : Sig := ⟨[qM, qM], [oB]⟩
noncomputable def cfg : Cfg := cl (cx []) fun id => match id with | 4 => ([0, 1, 5], []) | _ => ([], [])
noncomputable def fin := finK cfg.c sig [.tmp 4]
noncomputable def F (d : MX × MX × Unit) : OB := anyK (a9W cfg fin (bd f108) (a6v sig.ps d 74))
variable (k : Nat) (i9 i10 i11 : Int) (x12 : LI) (i13 i14 i15 : Int) (x16 : LI) (i17 : Int)
noncomputable def l4 : OB := Vm.runT cfg fin k [.inLoop (sub [1, 1, 0, 1, 0, 0] (bd f108)), .inBlock 0, .code (sub [1, 1, 1] (bd f108))] ⟨[.rptr false [cI i9, cI i10, cI i11, cL x12], .rptr false [cI i13, cI i14, cI i15, cL x16], dD, dD, dD, vI i17] ++ a8d 68, []⟩
theorem l4_eq : l4 (k + 1) i9 i10 i11 x12 i13 i14 i15 x16 i17 = if (decide (i17 < (x12.length : Int))) = true then if 0 ≤ i17 ∧ i17 < (x12.length : Int) then if 0 ≤ i17 ∧ i17 < (x16.length : Int) then if ((x12.getD i17.toNat 0 : Int) != (x16.getD i17.toNat 0 : Int)) = true then some ((false, ()), ()) else l4 k i9 i10 i11 x12 i13 i14 i15 x16 (IntKind.i64.wrap (i17 + 1)) else none else none else some ((true, ()), ()) := by kernel_rfl
variable (toArray_1 toArray_2 toArray_3 : Int) (toArray_4 : LI) (a_5 a_6 a_7 : Int) (a_8 : LI)
noncomputable def T : OB := if (toArray_1 != a_5) = true then some ((false, ()), ()) else if (toArray_2 != a_6) = true then some ((false, ()), ()) else if (toArray_3 != a_7) = true then some ((false, ()), ()) else if ((toArray_4.length : Int) != (a_8.length : Int)) = true then some ((false, ()), ()) else l4 k toArray_1 toArray_2 toArray_3 toArray_4 a_5 a_6 a_7 a_8 (0 : Int)
theorem of {r} (h : Ev (fun k => T k toArray_1 toArray_2 toArray_3 toArray_4 a_5 a_6 a_7 a_8) r) : F ((toArray_1, (toArray_2, (toArray_3, toArray_4))), (a_5, (a_6, (a_7, a_8))), ()) = some r := Ev.run (fun k => by kernel_rfl) h
theorem S : a3D prog ⟨108, sig, F⟩ := sound_k (res := [.tmp 4]) func108 (cok nM)
end Ac4
namespace Aa8
noncomputable def sig : Sig := ⟨[qS], [oI, oI, oI]⟩
noncomputable def cfg : Cfg := cl (cx [⟨107, Ae4.sig, Ae4.F⟩, ⟨108, Ac4.sig, Ac4.F⟩]) fun id => match id with | 2 => ([0, 5], []) | 6 => ([0, 5, 6, 7], []) | 9 => ([0, 5, 6, 7, 8], []) | _ => ([], [])
noncomputable def fin := finK cfg.c sig [.tmp 2, .tmp 3, .tmp 4]
noncomputable def F (d : SF × Unit) : Option ((Int × Int × Int × Unit) × (Unit)) := anyK (a9W cfg fin (bd f75) (a6v sig.ps d 61))
variable (k : Nat) (x5 : LL) (i6 : Int) (x7 : LI) (x8 : LM) (i9 : Int)
noncomputable def l2 : Option ((Int × Int × Int × Unit) × (Unit)) := Vm.runT cfg fin k [.inLoop (sub [1, 0, 1, 0, 0] (bd f75)), .inBlock 0, .code (sub [1, 1] (bd f75))] ⟨[.rptr false [cQ x5, cI i6, cL x7, ⟨(.sl TMatrix), .sh, x8⟩], dD, dD, dD, dD, vI i9] ++ a8d 55, []⟩
variable (x10 : LL) (i11 : Int) (x12 : LI) (x13 : LM) (i14 i15 i16 : Int)
noncomputable def l6 : Option ((Int × Int × Int × Unit) × (Unit)) := Vm.runT cfg fin k [.inLoop (sub [1, 0, 1, 0, 0, 1, 0, 0, 1, 1, 0, 0] (bd f75)), .inBlock 2, .inBlock 1, .code (sub [1, 0, 1, 0, 0, 1, 1] (bd f75)), .inLoop (sub [1, 0, 1, 0, 0] (bd f75)), .inBlock 0, .code (sub [1, 1] (bd f75))] ⟨[.rptr false [cQ x10, cI i11, cL x12, ⟨(.sl TMatrix), .sh, x13⟩], dD, dD, dD, dD, vI i14, vI i15, vI i16] ++ a8d 53, []⟩
variable (x17 : LL) (i18 : Int) (x19 : LI) (x20 : LM) (i21 i22 i23 i24 : Int)
noncomputable def l9 : Option ((Int × Int × Int × Unit) × (Unit)) := Vm.runT cfg fin k [.inLoop (sub [1, 0, 1, 0, 0, 1, 0, 0, 1, 1, 0, 0, 1, 0, 0, 1, 0, 0] (bd f75)), .inBlock 4, .inBlock 3, .code (sub [1, 0, 1, 0, 0, 1, 0, 0, 1, 1, 0, 0, 1, 1] (bd f75)), .inLoop (sub [1, 0, 1, 0, 0, 1, 0, 0, 1, 1, 0, 0] (bd f75)), .inBlock 2, .inBlock 1, .code (sub [1, 0, 1, 0, 0, 1, 1] (bd f75)), .inLoop (sub [1, 0, 1, 0, 0] (bd f75)), .inBlock 0, .code (sub [1, 1] (bd f75))] ⟨[.rptr false [cQ x17, cI i18, cL x19, ⟨(.sl TMatrix), .sh, x20⟩], dD, dD, dD, dD, vI i21, vI i22, vI i23, vI i24] ++ a8d 52, []⟩
theorem l2_eq : l2 (k + 1) x5 i6 x7 x8 i9 = if (decide (i9 < (x5.length : Int))) = true then if 0 ≤ i9 ∧ i9 < (x5.length : Int) then l6 k x5 i6 x7 x8 i9 ((x5.getD i9.toNat ([] : LI)).length : Int) (0 : Int) else none else some (((-1 : Int), ((0 : Int), ((0 : Int), ()))), ()) := by kernel_rfl
theorem l6_eq : l6 (k + 1) x10 i11 x12 x13 i14 i15 i16 = if (decide (i16 < i15)) = true then if (decide (i15 > 2)) = true then l9 k x10 i11 x12 x13 i14 i15 i16 (IntKind.i64.wrap (i16 + 1)) else l2 k x10 i11 x12 x13 (IntKind.i64.wrap (i14 + 1)) else l2 k x10 i11 x12 x13 (IntKind.i64.wrap (i14 + 1)) := by kernel_rfl
theorem l9_eq : l9 (k + 1) x17 i18 x19 x20 i21 i22 i23 i24 = if (decide (i24 < i22)) = true then (Ae4.F ((x17, (i18, (x19, x20))), i21, i23, i24, ())).bind fun r25 => (Ae4.F ((x17, (i18, (x19, x20))), i21, i24, i23, ())).bind fun r26 => (Ac4.F (r25.1.1, r26.1.1, ())).bind fun r27 => if (!r27.1.1) = true then some ((i21, (i23, (i24, ()))), ()) else l9 k x17 i18 x19 x20 i21 i22 i23 (IntKind.i64.wrap (i24 + 1)) else l6 k x17 i18 x19 x20 i21 i22 (IntKind.i64.wrap (i23 + 1)) := by kernel_rfl
variable (s_1 : LL) (s_2 : Int) (s_3 : LI) (s_4 : LM)
noncomputable def T : Option ((Int × Int × Int × Unit) × (Unit)) := l2 k s_1 s_2 s_3 s_4 (0 : Int)
theorem of {r} (h : Ev (fun k => T k s_1 s_2 s_3 s_4) r) : F ((s_1, (s_2, (s_3, s_4))), ()) = some r := Ev.run (fun k => by kernel_rfl) h
theorem S : a3D prog ⟨75, sig, F⟩ := sound_k (res := [.tmp 2, .tmp 3, .tmp 4]) func75 (cok (cM ⟨Ae4.S, cM ⟨Ac4.S, nM⟩⟩))
end Aa8
namespace Ae3
noncomputable def sig : Sig := ⟨[qS], [oB]⟩
noncomputable def cfg : Cfg := cf (cx [⟨74, Aa5.sig, Aa5.F⟩, ⟨75, Aa8.sig, Aa8.F⟩])
noncomputable def fin := finK cfg.c sig [.tmp 2]
noncomputable def F (d : SF × Unit) : OB := anyK (a9W cfg fin (bd f45) (a6v sig.ps d 17))
variable (s_1 : LL) (s_2 : Int) (s_3 : LI) (s_4 : LM)
noncomputable def T : OB := (Aa5.F ((s_1, (s_2, (s_3, s_4))), ())).bind fun r5 => if (!r5.1.1) = true then some ((false, ()), ()) else (Aa8.F ((s_1, (s_2, (s_3, s_4))), ())).bind fun r6 => some ((decide (r6.1.1 < 0), ()), ())
theorem eq : F ((s_1, (s_2, (s_3, s_4))), ()) = T s_1 s_2 s_3 s_4 := eq_any fun k => by kernel_rfl
theorem S : a3D prog ⟨45, sig, F⟩ := sound_k (res := [.tmp 2]) func45 (cok (cM ⟨Aa5.S, cM ⟨Aa8.S, nM⟩⟩))
end Ae3
namespace Af6
noncomputable def sig : Sig := ⟨[qC, qC], [oB]⟩
noncomputable def cfg : Cfg := cl (cx [⟨76, Ac3.sig, Ac3.F⟩]) fun id => match id with | 4 => ([0, 1, 5], []) | _ => ([], [])
noncomputable def fin := finK cfg.c sig [.tmp 4]
noncomputable def F (d : LL × LL × Unit) : OB := anyK (a9W cfg fin (bd f46) (a6v sig.ps d 42))
variable (k : Nat) (x3 x4 : LL) (i5 : Int)
noncomputable def l4 : OB := Vm.runT cfg fin k [.inLoop (sub [1, 1, 0, 1, 0, 0] (bd f46)), .inBlock 0, .code (sub [1, 1, 1] (bd f46))] ⟨[.rptr false [cQ x3], .rptr false [cQ x4], dD, dD, dD, vI i5] ++ a8d 36, []⟩
theorem l4_eq : l4 (k + 1) x3 x4 i5 = if (decide (i5 < (x3.length : Int))) = true then if 0 ≤ i5 ∧ i5 < (x3.length : Int) then if 0 ≤ i5 ∧ i5 < (x4.length : Int) then (Ac3.F (x3.getD i5.toNat ([] : LI), x4.getD i5.toNat ([] : LI), ())).bind fun r6 => if (!r6.1.1) = true then some ((false, ()), ()) else l4 k x3 x4 (IntKind.i64.wrap (i5 + 1)) else none else none else some ((true, ()), ()) := by kernel_rfl
variable (a_1 b_2 : LL)
noncomputable def T : OB := if ((a_1.length : Int) != (b_2.length : Int)) = true then some ((false, ()), ()) else l4 k a_1 b_2 (0 : Int)
theorem of {r} (h : Ev (fun k => T k a_1 b_2) r) : F (a_1, b_2, ()) = some r := Ev.run (fun k => by kernel_rfl) h
theorem S : a3D prog ⟨46, sig, F⟩ := sound_k (res := [.tmp 4]) func46 (cok (cM ⟨Ac3.S, nM⟩))
end Af6
namespace Ah5
noncomputable def sig : Sig := ⟨[qS, qS], [oI]⟩
noncomputable def cfg : Cfg := cf (cx [⟨45, Ae3.sig, Ae3.F⟩, ⟨46, Af6.sig, Af6.F⟩])
noncomputable def fin := finK cfg.c sig [.tmp 4]
noncomputable def F (d : SF × SF × Unit) : OI := anyK (a9W cfg fin (bd f17) (a6v sig.ps d 32))
variable (a_1 : LL) (a_2 : Int) (a_3 : LI) (a_4 : LM) (b_5 : LL) (b_6 : Int) (b_7 : LI) (b_8 : LM)
noncomputable def T : OI := (Ae3.F ((a_1, (a_2, (a_3, a_4))), ())).bind fun r9 => if (!r9.1.1) = true then some ((1, ()), ()) else (Ae3.F ((b_5, (b_6, (b_7, b_8))), ())).bind fun r10 => if (!r10.1.1) = true then some ((1, ()), ()) else (Af6.F (a_1, b_5, ())).bind fun r11 => if (!r11.1.1) = true then some ((6, ()), ()) else if (a_2 != b_6) = true then some ((6, ()), ()) else some ((0, ()), ())
theorem eq : F ((a_1, (a_2, (a_3, a_4))), (b_5, (b_6, (b_7, b_8))), ()) = T a_1 a_2 a_3 a_4 b_5 b_6 b_7 b_8 := eq_any fun k => by kernel_rfl
theorem S : a3D prog ⟨17, sig, F⟩ := sound_k (res := [.tmp 4]) func17 (cok (cM ⟨Ae3.S, cM ⟨Af6.S, nM⟩⟩))
end Ah5
namespace Ai4
noncomputable def sig : Sig := ⟨[pI, pI, pQ], [oM]⟩
noncomputable def cfg : Cfg := cl (cx []) fun id => match id with | 3 => ([2, 6, 7, 8], [24, 28]) | _ => ([], [])
noncomputable def fin := finK cfg.c sig [.cell 6 53]
noncomputable def F (d : Int × Int × LL × Unit) : OM := anyK (a9W cfg fin (bd f50) (a6v sig.ps d 30))
variable (k : Nat) (x4 : LL) (i5 i6 i7 i8 : Int) (x9 : LI) (i10 i11 i12 : Int) (x13 : LI)
noncomputable def l3 : OM := Vm.runT cfg fin k [.inLoop (sub [1, 1, 0, 1, 0, 0] (bd f50)), .inBlock 0, .code (sub [1, 1, 1] (bd f50))] ⟨[dD, dD, vQ x4, dD, dD, dD, .ref 24 (.root 0), .ref 28 (.root 0), vI i5] ++ a8d 21, [(24, ⟨true, [cI i6, cI i7, cI i8, dL x9]⟩), (28, ⟨true, [cI i10, cI i11, cI i12, dL x13]⟩)]⟩
theorem l3_eq : l3 (k + 1) x4 i5 i6 i7 i8 x9 i10 i11 i12 x13 = if (decide (i5 < (x4.length : Int))) = true then if 0 ≤ i5 ∧ i5 < (x4.length : Int) then if x13.length + (x4.getD i5.toNat ([] : LI)).length ≤ bigA then l3 k x4 (IntKind.i64.wrap (i5 + 1)) i6 i7 i8 x9 i10 i11 i12 (x13 ++ (x4.getD i5.toNat ([] : LI))) else none else none else some (((i10, (i11, (i12, x13))), ()), ()) := by kernel_rfl
variable (p_1 length_2 : Int) (rows_3 : LL)
noncomputable def T : OM := l3 k rows_3 (0 : Int) 0 0 0 ([]) p_1 (rows_3.length : Int) length_2 ([] : LI)
theorem of {r} (h : Ev (fun k => T k p_1 length_2 rows_3) r) : F (p_1, length_2, rows_3, ()) = some r := Ev.run (fun k => by kernel_rfl) h
theorem S : a3D prog ⟨50, sig, F⟩ := sound_k (res := [.cell 6 53]) func50 (cok nM)
end Ai4
namespace Ae1
noncomputable def sig : Sig := ⟨[pI, pI], [oI]⟩
noncomputable def cfg : Cfg := cl (cx []) fun id => match id with | 3 => ([0, 1, 5, 6], []) | _ => ([], [])
noncomputable def fin := finK cfg.c sig [.tmp 4]
noncomputable def F (d : Int × Int × Unit) : OI := anyK (a9W cfg fin (bd f77) (a6v sig.ps d 19))
variable (k : Nat) (i3 i4 i5 i6 : Int)
noncomputable def l3 : OI := Vm.runT cfg fin k [.inLoop (sub [1, 1, 0, 1, 0, 0] (bd f77)), .inBlock 0, .code (sub [1, 1, 1] (bd f77))] ⟨[vI i3, vI i4, dD, dD, dD, vI i5, vI i6] ++ a8d 12, []⟩
theorem l3_eq : l3 (k + 1) i3 i4 i5 i6 = if (decide (i6 > 0)) = true then if i4 = 0 then none else l3 k i3 i4 ((IntKind.i64.wrap (i5 * i3)).tmod i4) (IntKind.i64.wrap (i6 - 1)) else some ((i5, ()), ()) := by kernel_rfl
variable (a_1 p_2 : Int)
noncomputable def T : OI := l3 k a_1 p_2 (1 : Int) (IntKind.i64.wrap (p_2 - (2 : Int)))
theorem of {r} (h : Ev (fun k => T k a_1 p_2) r) : F (a_1, p_2, ()) = some r := Ev.run (fun k => by kernel_rfl) h
theorem S : a3D prog ⟨77, sig, F⟩ := sound_k (res := [.tmp 4]) func77 (cok nM)
end Ae1
namespace Am2
noncomputable def sig : Sig := ⟨[pI, pI], [oI]⟩
noncomputable def cfg : Cfg := cf (cx [])
noncomputable def fin := finK cfg.c sig [.tmp 4]
noncomputable def F (d : Int × Int × Unit) : OI := anyK (a9W cfg fin (bd f78) (a6v sig.ps d 12))
variable (n_1 p_2 : Int)
noncomputable def T : OI := if p_2 = 0 then none else if p_2 = 0 then none else some (((IntKind.i64.wrap ((n_1.tmod p_2) + p_2)).tmod p_2, ()), ())
theorem eq : F (n_1, p_2, ()) = T n_1 p_2 := eq_any fun k => by kernel_rfl
theorem S : a3D prog ⟨78, sig, F⟩ := sound_k (res := [.tmp 4]) func78 (cok nM)
end Am2
namespace Aa0
noncomputable def sig : Sig := ⟨[qM], [oM, oL, oI]⟩
noncomputable def cfg : Cfg := cl (cx [⟨52, Ac2.sig, Ac2.F⟩, ⟨77, Ae1.sig, Ae1.F⟩, ⟨78, Am2.sig, Am2.F⟩]) fun id => match id with | 8 => ([0, 2, 5, 6, 7, 8, 9, 10, 11], [8, 20, 32]) | 11 => ([0, 2, 5, 6, 7, 8, 9, 10, 11, 12], [8, 20, 32]) | 17 => ([0, 2, 5, 6, 7, 8, 9, 10, 11, 12, 13], [8, 20, 32]) | 26 => ([0, 2, 5, 6, 7, 8, 9, 10, 11, 16, 17], [8, 20, 32]) | 30 => ([0, 2, 5, 6, 7, 8, 9, 10, 11, 18], [8, 20, 32]) | 35 => ([0, 2, 5, 6, 7, 8, 9, 10, 11, 18, 19, 20], [8, 20, 32]) | _ => ([], [])
noncomputable def fin := finK cfg.c sig [.cell 2 53, .tmp 3, .tmp 4]
noncomputable def F (d : MX × Unit) : Option ((MX × LI × Int × Unit) × (Unit)) := anyK (a9W cfg fin (bd f51) (a6v sig.ps d 246))
variable (k : Nat) (i6 i7 i8 : Int) (x9 : LI) (i10 i11 i12 i13 i14 i15 i16 i17 : Int) (x18 : LI) (i19 i20 i21 : Int) (x22 x23 : LI)
noncomputable def l8 : Option ((MX × LI × Int × Unit) × (Unit)) := Vm.runT cfg fin k [.inLoop (sub [1, 1, 1, 1, 1, 1, 1, 0, 1, 0, 0] (bd f51)), .inBlock 0, .code (sub [1, 1, 1, 1, 1, 1, 1, 1] (bd f51))] ⟨[.rptr false [cI i6, cI i7, cI i8, cL x9], dD, .ref 8 (.root 0), dD, dD, .ref 20 (.root 0), vI i10, vI i11, .view 32 (.root 0) 1 false, vI i12, vI i13, vI i14] ++ a8d 234, [(8, ⟨true, [cI i15, cI i16, cI i17, dL x18]⟩), (20, ⟨true, [cI i19, cI i20, cI i21, dL x22]⟩), (32, ⟨false, [dL x23]⟩)]⟩
variable (i24 i25 i26 : Int) (x27 : LI) (i28 i29 i30 i31 i32 i33 i34 i35 i36 : Int) (x37 : LI) (i38 i39 i40 : Int) (x41 x42 : LI)
noncomputable def l11 : Option ((MX × LI × Int × Unit) × (Unit)) := Vm.runT cfg fin k [.inLoop (sub [1, 1, 1, 1, 1, 1, 1, 0, 1, 0, 0, 1, 0, 0, 1, 0, 0, 0] (bd f51)), .inBlock 2, .code (sub [1, 1, 1, 1, 1, 1, 1, 0, 1, 0, 0, 1, 0, 0, 1, 1] (bd f51)), .inBlock 1, .code (sub [1, 1, 1, 1, 1, 1, 1, 0, 1, 0, 0, 1, 1] (bd f51)), .inLoop (sub [1, 1, 1, 1, 1, 1, 1, 0, 1, 0, 0] (bd f51)), .inBlock 0, .code (sub [1, 1, 1, 1, 1, 1, 1, 1] (bd f51))] ⟨[.rptr false [cI i24, cI i25, cI i26, cL x27], dD, .ref 8 (.root 0), dD, dD, .ref 20 (.root 0), vI i28, vI i29, .view 32 (.root 0) 1 false, vI i30, vI i31, vI i32, vI i33] ++ a8d 233, [(8, ⟨true, [cI i34, cI i35, cI i36, dL x37]⟩), (20, ⟨true, [cI i38, cI i39, cI i40, dL x41]⟩), (32, ⟨false, [dL x42]⟩)]⟩
variable (i43 i44 i45 : Int) (x46 : LI) (i47 i48 i49 i50 i51 i52 i53 i54 i55 i56 : Int) (x57 : LI) (i58 i59 i60 : Int) (x61 x62 : LI)
noncomputable def l17 : Option ((MX × LI × Int × Unit) × (Unit)) := Vm.runT cfg fin k [.inLoop (sub [1, 1, 1, 1, 1, 1, 1, 0, 1, 0, 0, 1, 0, 0, 1, 1, 1, 0, 1, 0, 1, 1, 0, 0] (bd f51)), .inBlock 4, .code (sub [1, 1, 1, 1, 1, 1, 1, 0, 1, 0, 0, 1, 0, 0, 1, 1, 1, 1] (bd f51)), .inBlock 1, .code (sub [1, 1, 1, 1, 1, 1, 1, 0, 1, 0, 0, 1, 1] (bd f51)), .inLoop (sub [1, 1, 1, 1, 1, 1, 1, 0, 1, 0, 0] (bd f51)), .inBlock 0, .code (sub [1, 1, 1, 1, 1, 1, 1, 1] (bd f51))] ⟨[.rptr false [cI i43, cI i44, cI i45, cL x46], dD, .ref 8 (.root 0), dD, dD, .ref 20 (.root 0), vI i47, vI i48, .view 32 (.root 0) 1 false, vI i49, vI i50, vI i51, vI i52, vI i53] ++ a8d 232, [(8, ⟨true, [cI i54, cI i55, cI i56, dL x57]⟩), (20, ⟨true, [cI i58, cI i59, cI i60, dL x61]⟩), (32, ⟨false, [dL x62]⟩)]⟩
variable (i66 i67 i68 : Int) (x69 : LI) (i70 i71 i72 i73 i74 i75 i76 i77 i78 i79 : Int) (x80 : LI) (i81 i82 i83 : Int) (x84 x85 : LI)
noncomputable def l26 : Option ((MX × LI × Int × Unit) × (Unit)) := Vm.runT cfg fin k [.inLoop (sub [1, 1, 1, 1, 1, 1, 1, 0, 1, 0, 0, 1, 0, 0, 1, 1, 1, 1, 1, 1, 1, 0, 1, 0, 0] (bd f51)), .inBlock 6, .code (sub [1, 1, 1, 1, 1, 1, 1, 0, 1, 0, 0, 1, 0, 0, 1, 1, 1, 1, 1, 1, 1, 1] (bd f51)), .inBlock 1, .code (sub [1, 1, 1, 1, 1, 1, 1, 0, 1, 0, 0, 1, 1] (bd f51)), .inLoop (sub [1, 1, 1, 1, 1, 1, 1, 0, 1, 0, 0] (bd f51)), .inBlock 0, .code (sub [1, 1, 1, 1, 1, 1, 1, 1] (bd f51))] ⟨[.rptr false [cI i66, cI i67, cI i68, cL x69], dD, .ref 8 (.root 0), dD, dD, .ref 20 (.root 0), vI i70, vI i71, .view 32 (.root 0) 1 false, vI i72, vI i73, vI i74, dD, dD, dD, dD, vI i75, vI i76] ++ a8d 228, [(8, ⟨true, [cI i77, cI i78, cI i79, dL x80]⟩), (20, ⟨true, [cI i81, cI i82, cI i83, dL x84]⟩), (32, ⟨false, [dL x85]⟩)]⟩
variable (i87 i88 i89 : Int) (x90 : LI) (i91 i92 i93 i94 i95 i96 i97 i98 i99 : Int) (x100 : LI) (i101 i102 i103 : Int) (x104 x105 : LI)
noncomputable def l30 : Option ((MX × LI × Int × Unit) × (Unit)) := Vm.runT cfg fin k [.inLoop (sub [1, 1, 1, 1, 1, 1, 1, 0, 1, 0, 0, 1, 0, 0, 1, 1, 1, 1, 1, 1, 1, 1, 0, 1, 0, 0] (bd f51)), .inBlock 8, .code (sub [1, 1, 1, 1, 1, 1, 1, 0, 1, 0, 0, 1, 0, 0, 1, 1, 1, 1, 1, 1, 1, 1, 1] (bd f51)), .inBlock 1, .code (sub [1, 1, 1, 1, 1, 1, 1, 0, 1, 0, 0, 1, 1] (bd f51)), .inLoop (sub [1, 1, 1, 1, 1, 1, 1, 0, 1, 0, 0] (bd f51)), .inBlock 0, .code (sub [1, 1, 1, 1, 1, 1, 1, 1] (bd f51))] ⟨[.rptr false [cI i87, cI i88, cI i89, cL x90], dD, .ref 8 (.root 0), dD, dD, .ref 20 (.root 0), vI i91, vI i92, .view 32 (.root 0) 1 false, vI i93, vI i94, vI i95, dD, dD, dD, dD, dD, dD, vI i96] ++ a8d 227, [(8, ⟨true, [cI i97, cI i98, cI i99, dL x100]⟩), (20, ⟨true, [cI i101, cI i102, cI i103, dL x104]⟩), (32, ⟨false, [dL x105]⟩)]⟩
variable (i106 i107 i108 : Int) (x109 : LI) (i110 i111 i112 i113 i114 i115 i116 i117 i118 i119 i120 : Int) (x121 : LI) (i122 i123 i124 : Int) (x125 x126 : LI)
noncomputable def l35 : Option ((MX × LI × Int × Unit) × (Unit)) := Vm.runT cfg fin k [.inLoop (sub [1, 1, 1, 1, 1, 1, 1, 0, 1, 0, 0, 1, 0, 0, 1, 1, 1, 1, 1, 1, 1, 1, 0, 1, 0, 0, 1, 0, 0, 1, 1, 1, 0, 0] (bd f51)), .inBlock 10, .inBlock 9, .code (sub [1, 1, 1, 1, 1, 1, 1, 0, 1, 0, 0, 1, 0, 0, 1, 1, 1, 1, 1, 1, 1, 1, 0, 1, 0, 0, 1, 1] (bd f51)), .inLoop (sub [1, 1, 1, 1, 1, 1, 1, 0, 1, 0, 0, 1, 0, 0, 1, 1, 1, 1, 1, 1, 1, 1, 0, 1, 0, 0] (bd f51)), .inBlock 8, .code (sub [1, 1, 1, 1, 1, 1, 1, 0, 1, 0, 0, 1, 0, 0, 1, 1, 1, 1, 1, 1, 1, 1, 1] (bd f51)), .inBlock 1, .code (sub [1, 1, 1, 1, 1, 1, 1, 0, 1, 0, 0, 1, 1] (bd f51)), .inLoop (sub [1, 1, 1, 1, 1, 1, 1, 0, 1, 0, 0] (bd f51)), .inBlock 0, .code (sub [1, 1, 1, 1, 1, 1, 1, 1] (bd f51))] ⟨[.rptr false [cI i106, cI i107, cI i108, cL x109], dD, .ref 8 (.root 0), dD, dD, .ref 20 (.root 0), vI i110, vI i111, .view 32 (.root 0) 1 false, vI i112, vI i113, vI i114, dD, dD, dD, dD, dD, dD, vI i115, vI i116, vI i117] ++ a8d 225, [(8, ⟨true, [cI i118, cI i119, cI i120, dL x121]⟩), (20, ⟨true, [cI i122, cI i123, cI i124, dL x125]⟩), (32, ⟨false, [dL x126]⟩)]⟩
theorem l8_eq : l8 (k + 1) i6 i7 i8 x9 i10 i11 i12 i13 i14 i15 i16 i17 x18 i19 i20 i21 x22 x23 = if (decide (i14 < i11)) = true then if (decide (i13 < i7)) = true then l11 k i6 i7 i8 x9 i10 i11 i12 i13 i14 i13 i15 i16 i17 x18 i19 i20 i21 x22 x23 else some (((i19, (i20, (i21, x22))), (x23, (i12, ()))), ()) else some (((i19, (i20, (i21, x22))), (x23, (i12, ()))), ()) := by kernel_rfl
theorem l11_eq : l11 (k + 1) i24 i25 i26 x27 i28 i29 i30 i31 i32 i33 i34 i35 i36 x37 i38 i39 i40 x41 x42 = if (decide (i33 < i25)) = true then if 0 ≤ (IntKind.i64.wrap ((IntKind.i64.wrap (i33 * i29)) + i32)) ∧ (IntKind.i64.wrap ((IntKind.i64.wrap (i33 * i29)) + i32)) < (x41.length : Int) then if ((x41.getD (IntKind.i64.wrap ((IntKind.i64.wrap (i33 * i29)) + i32)).toNat 0 : Int) == 0) = true then l11 k i24 i25 i26 x27 i28 i29 i30 i31 i32 (IntKind.i64.wrap (i33 + 1)) i34 i35 i36 x37 i38 i39 i40 x41 x42 else if (i33 == i25) = true then l8 k i24 i25 i26 x27 i28 i29 i30 i31 (IntKind.i64.wrap (i32 + 1)) i34 i35 i36 x37 i38 i39 i40 x41 x42 else if (i33 != i31) = true then l17 k i24 i25 i26 x27 i28 i29 (IntKind.i64.wrap (i28 - i30)) i31 i32 i33 (0 : Int) i34 i35 i36 x37 i38 i39 i40 x41 x42 else if 0 ≤ (IntKind.i64.wrap ((IntKind.i64.wrap (i31 * i29)) + i32)) ∧ (IntKind.i64.wrap ((IntKind.i64.wrap (i31 * i29)) + i32)) < (x41.length : Int) then if i28 = 0 then none else (Ae1.F ((x41.getD (IntKind.i64.wrap ((IntKind.i64.wrap (i31 * i29)) + i32)).toNat 0 : Int), i28, ())).bind fun r129 => l26 k i24 i25 i26 x27 i28 i29 ((IntKind.i64.wrap (i30 * (x41.getD (IntKind.i64.wrap ((IntKind.i64.wrap (i31 * i29)) + i32)).toNat 0 : Int))).tmod i28) i31 i32 r129.1.1 (0 : Int) i34 i35 i36 x37 i38 i39 i40 x41 x42 else none else none else if (i33 == i25) = true then l8 k i24 i25 i26 x27 i28 i29 i30 i31 (IntKind.i64.wrap (i32 + 1)) i34 i35 i36 x37 i38 i39 i40 x41 x42 else if (i33 != i31) = true then l17 k i24 i25 i26 x27 i28 i29 (IntKind.i64.wrap (i28 - i30)) i31 i32 i33 (0 : Int) i34 i35 i36 x37 i38 i39 i40 x41 x42 else if 0 ≤ (IntKind.i64.wrap ((IntKind.i64.wrap (i31 * i29)) + i32)) ∧ (IntKind.i64.wrap ((IntKind.i64.wrap (i31 * i29)) + i32)) < (x41.length : Int) then if i28 = 0 then none else (Ae1.F ((x41.getD (IntKind.i64.wrap ((IntKind.i64.wrap (i31 * i29)) + i32)).toNat 0 : Int), i28, ())).bind fun r130 => l26 k i24 i25 i26 x27 i28 i29 ((IntKind.i64.wrap (i30 * (x41.getD (IntKind.i64.wrap ((IntKind.i64.wrap (i31 * i29)) + i32)).toNat 0 : Int))).tmod i28) i31 i32 r130.1.1 (0 : Int) i34 i35 i36 x37 i38 i39 i40 x41 x42 else none := by kernel_rfl
theorem l17_eq : l17 (k + 1) i43 i44 i45 x46 i47 i48 i49 i50 i51 i52 i53 i54 i55 i56 x57 i58 i59 i60 x61 x62 = if (decide (i53 < i48)) = true then if 0 ≤ (IntKind.i64.wrap ((IntKind.i64.wrap (i52 * i48)) + i53)) ∧ (IntKind.i64.wrap ((IntKind.i64.wrap (i52 * i48)) + i53)) < (x61.length : Int) then if 0 ≤ (IntKind.i64.wrap ((IntKind.i64.wrap (i50 * i48)) + i53)) ∧ (IntKind.i64.wrap ((IntKind.i64.wrap (i50 * i48)) + i53)) < (x61.length : Int) then if 0 ≤ (IntKind.i64.wrap ((IntKind.i64.wrap (i52 * i48)) + i53)) ∧ (IntKind.i64.wrap ((IntKind.i64.wrap (i52 * i48)) + i53)) < (x61.length : Int) then let y63 : LI := x61.set (IntKind.i64.wrap ((IntKind.i64.wrap (i52 * i48)) + i53)).toNat (x61.getD (IntKind.i64.wrap ((IntKind.i64.wrap (i50 * i48)) + i53)).toNat 0 : Int); if 0 ≤ (IntKind.i64.wrap ((IntKind.i64.wrap (i50 * i48)) + i53)) ∧ (IntKind.i64.wrap ((IntKind.i64.wrap (i50 * i48)) + i53)) < (y63.length : Int) then let y64 : LI := y63.set (IntKind.i64.wrap ((IntKind.i64.wrap (i50 * i48)) + i53)).toNat (x61.getD (IntKind.i64.wrap ((IntKind.i64.wrap (i52 * i48)) + i53)).toNat 0 : Int); l17 k i43 i44 i45 x46 i47 i48 i49 i50 i51 i52 (IntKind.i64.wrap (i53 + 1)) i54 i55 i56 x57 i58 i59 i60 y64 x62 else none else none else none else none else if 0 ≤ (IntKind.i64.wrap ((IntKind.i64.wrap (i50 * i48)) + i51)) ∧ (IntKind.i64.wrap ((IntKind.i64.wrap (i50 * i48)) + i51)) < (x61.length : Int) then if i47 = 0 then none else (Ae1.F ((x61.getD (IntKind.i64.wrap ((IntKind.i64.wrap (i50 * i48)) + i51)).toNat 0 : Int), i47, ())).bind fun r65 => l26 k i43 i44 i45 x46 i47 i48 ((IntKind.i64.wrap (i49 * (x61.getD (IntKind.i64.wrap ((IntKind.i64.wrap (i50 * i48)) + i51)).toNat 0 : Int))).tmod i47) i50 i51 r65.1.1 (0 : Int) i54 i55 i56 x57 i58 i59 i60 x61 x62 else none := by kernel_rfl
theorem l26_eq : l26 (k + 1) i66 i67 i68 x69 i70 i71 i72 i73 i74 i75 i76 i77 i78 i79 x80 i81 i82 i83 x84 x85 = if (decide (i76 < i71)) = true then if 0 ≤ (IntKind.i64.wrap ((IntKind.i64.wrap (i73 * i71)) + i76)) ∧ (IntKind.i64.wrap ((IntKind.i64.wrap (i73 * i71)) + i76)) < (x84.length : Int) then if i70 = 0 then none else if 0 ≤ (IntKind.i64.wrap ((IntKind.i64.wrap (i73 * i71)) + i76)) ∧ (IntKind.i64.wrap ((IntKind.i64.wrap (i73 * i71)) + i76)) < (x84.length : Int) then let y86 : LI := x84.set (IntKind.i64.wrap ((IntKind.i64.wrap (i73 * i71)) + i76)).toNat ((IntKind.i64.wrap ((x84.getD (IntKind.i64.wrap ((IntKind.i64.wrap (i73 * i71)) + i76)).toNat 0 : Int) * i75)).tmod i70); l26 k i66 i67 i68 x69 i70 i71 i72 i73 i74 i75 (IntKind.i64.wrap (i76 + 1)) i77 i78 i79 x80 i81 i82 i83 y86 x85 else none else none else l30 k i66 i67 i68 x69 i70 i71 i72 i73 i74 (0 : Int) i77 i78 i79 x80 i81 i82 i83 x84 x85 := by kernel_rfl
theorem l30_eq : l30 (k + 1) i87 i88 i89 x90 i91 i92 i93 i94 i95 i96 i97 i98 i99 x100 i101 i102 i103 x104 x105 = if (decide (i96 < i88)) = true then if 0 ≤ (IntKind.i64.wrap ((IntKind.i64.wrap (i96 * i92)) + i95)) ∧ (IntKind.i64.wrap ((IntKind.i64.wrap (i96 * i92)) + i95)) < (x104.length : Int) then if (i96 == i94) = true then l30 k i87 i88 i89 x90 i91 i92 i93 i94 i95 (IntKind.i64.wrap (i96 + 1)) i97 i98 i99 x100 i101 i102 i103 x104 x105 else if ((x104.getD (IntKind.i64.wrap ((IntKind.i64.wrap (i96 * i92)) + i95)).toNat 0 : Int) == 0) = true then l30 k i87 i88 i89 x90 i91 i92 i93 i94 i95 (IntKind.i64.wrap (i96 + 1)) i97 i98 i99 x100 i101 i102 i103 x104 x105 else l35 k i87 i88 i89 x90 i91 i92 i93 i94 i95 i96 (x104.getD (IntKind.i64.wrap ((IntKind.i64.wrap (i96 * i92)) + i95)).toNat 0 : Int) (0 : Int) i97 i98 i99 x100 i101 i102 i103 x104 x105 else none else if x105.length + [i95].length ≤ bigA then l8 k i87 i88 i89 x90 i91 i92 i93 (IntKind.i64.wrap (i94 + 1)) (IntKind.i64.wrap (i95 + 1)) i97 i98 i99 x100 i101 i102 i103 x104 (x105 ++ [i95]) else none := by kernel_rfl
theorem l35_eq : l35 (k + 1) i106 i107 i108 x109 i110 i111 i112 i113 i114 i115 i116 i117 i118 i119 i120 x121 i122 i123 i124 x125 x126 = if (decide (i117 < i111)) = true then if 0 ≤ (IntKind.i64.wrap ((IntKind.i64.wrap (i115 * i111)) + i117)) ∧ (IntKind.i64.wrap ((IntKind.i64.wrap (i115 * i111)) + i117)) < (x125.length : Int) then if 0 ≤ (IntKind.i64.wrap ((IntKind.i64.wrap (i113 * i111)) + i117)) ∧ (IntKind.i64.wrap ((IntKind.i64.wrap (i113 * i111)) + i117)) < (x125.length : Int) then (Am2.F (IntKind.i64.wrap ((x125.getD (IntKind.i64.wrap ((IntKind.i64.wrap (i115 * i111)) + i117)).toNat 0 : Int) - (IntKind.i64.wrap (i116 * (x125.getD (IntKind.i64.wrap ((IntKind.i64.wrap (i113 * i111)) + i117)).toNat 0 : Int)))), i110, ())).bind fun r127 => if 0 ≤ (IntKind.i64.wrap ((IntKind.i64.wrap (i115 * i111)) + i117)) ∧ (IntKind.i64.wrap ((IntKind.i64.wrap (i115 * i111)) + i117)) < (x125.length : Int) then let y128 : LI := x125.set (IntKind.i64.wrap ((IntKind.i64.wrap (i115 * i111)) + i117)).toNat r127.1.1; l35 k i106 i107 i108 x109 i110 i111 i112 i113 i114 i115 i116 (IntKind.i64.wrap (i117 + 1)) i118 i119 i120 x121 i122 i123 i124 y128 x126 else none else none else none else l30 k i106 i107 i108 x109 i110 i111 i112 i113 i114 (IntKind.i64.wrap (i115 + 1)) i118 i119 i120 x121 i122 i123 i124 x125 x126 := by kernel_rfl
variable (toArray_1 toArray_2 toArray_3 : Int) (toArray_4 : LI)
noncomputable def T : Option ((MX × LI × Int × Unit) × (Unit)) := (Ac2.F (toArray_4, ())).bind fun r5 => l8 k toArray_1 toArray_2 toArray_3 toArray_4 toArray_1 toArray_3 (1 : Int) (0 : Int) (0 : Int) 0 0 0 ([]) toArray_1 toArray_2 toArray_3 r5.1.1 ([] : LI)
theorem of {r} (h : Ev (fun k => T k toArray_1 toArray_2 toArray_3 toArray_4) r) : F ((toArray_1, (toArray_2, (toArray_3, toArray_4))), ()) = some r := Ev.run (fun k => by kernel_rfl) h
theorem S : a3D prog ⟨51, sig, F⟩ := sound_k (res := [.cell 2 53, .tmp 3, .tmp 4]) func51 (cok (cM ⟨Ac2.S, cM ⟨Ae1.S, cM ⟨Am2.S, nM⟩⟩⟩))
end Aa0
namespace Ag3
noncomputable def sig : Sig := ⟨[pI, pI, pQ], [oQ]⟩
noncomputable def cfg : Cfg := cl (⟨a2d tabl, [⟨50, Ai4.sig, Ai4.F⟩, ⟨51, Aa0.sig, Aa0.F⟩, ⟨52, Ac2.sig, Ac2.F⟩], [], [], [], [39]⟩) fun id => match id with | 5 => ([1, 8, 9, 11, 12], [32, 36, 44]) | _ => ([], [])
noncomputable def fin := finK cfg.c sig [.tmp 6]
noncomputable def F (d : Int × Int × LL × Unit) : OQ := anyK (a9W cfg fin (bd f20) (a6v sig.ps d 44))
variable (k : Nat) (i6 i7 i8 i9 i10 : Int) (x11 x12 : LI) (x13 : LL)
noncomputable def l5 : OQ := Vm.runT cfg fin k [.inLoop (sub [1, 1, 1, 1, 0, 1, 0, 0] (bd f20)), .inBlock 0, .code (sub [1, 1, 1, 1, 1] (bd f20))] ⟨[dD, vI i6, dD, dD, dD, dD, dD, dD, .ref 32 (.root 0), .view 36 (.root 0) 1 false, dD, .view 44 (.root 0) 1 false, vI i7] ++ a8d 31, [(32, ⟨true, [cI i8, cI i9, cI i10, dL x11]⟩), (36, ⟨false, [dL x12]⟩), (44, ⟨false, [dQ x13]⟩)]⟩
theorem l5_eq : l5 (k + 1) i6 i7 i8 i9 i10 x11 x12 x13 = if (decide (i7 < (x12.length : Int))) = true then if 0 ≤ (IntKind.i64.wrap (i7 * i6)) ∧ (IntKind.i64.wrap (i7 * i6)) ≤ (IntKind.i64.wrap ((IntKind.i64.wrap (i7 + 1)) * i6)) ∧ (IntKind.i64.wrap ((IntKind.i64.wrap (i7 + 1)) * i6)) ≤ (x11.length : Int) then (Ac2.F (cutL x11 (IntKind.i64.wrap (i7 * i6)) (IntKind.i64.wrap ((IntKind.i64.wrap (i7 + 1)) * i6)), ())).bind fun r14 => if x13.length + [r14.1.1].length ≤ bigA then l5 k i6 (IntKind.i64.wrap (i7 + 1)) i8 i9 i10 x11 x12 (x13 ++ [r14.1.1]) else none else none else some ((x13, ()), ()) := by kernel_rfl
variable (p_1 length_2 : Int) (rows_3 : LL)
noncomputable def T : OQ := (Ai4.F (p_1, length_2, rows_3, ())).bind fun r4 => (Aa0.F (r4.1.1, ())).bind fun r5 => l5 k length_2 (0 : Int) r5.1.1.1 r5.1.1.2.1 r5.1.1.2.2.1 r5.1.1.2.2.2 r5.1.2.1 ([] : LL)
theorem of {r} (h : Ev (fun k => T k p_1 length_2 rows_3) r) : F (p_1, length_2, rows_3, ()) = some r := Ev.run (fun k => by kernel_rfl) h
theorem S : a3D prog ⟨20, sig, F⟩ := sound_k (res := [.tmp 6]) func20 (⟨nM, mixed_ok, tab_ok tab_good, cM ⟨Ai4.S, cM ⟨Aa0.S, cM ⟨Ac2.S, nM⟩⟩⟩, nM, nM⟩)
end Ag3
namespace Aa1
noncomputable def sig : Sig := ⟨[pS, pS], [oI, oI]⟩
noncomputable def cfg : Cfg := cl (cx [⟨17, Ah5.sig, Ah5.F⟩, ⟨18, Ab3.sig, Ab3.F⟩, ⟨19, Aa7.sig, Aa7.F⟩, ⟨20, Ag3.sig, Ag3.F⟩]) fun id => match id with | 7 => ([2, 3, 7, 8, 9], [8, 12, 28]) | 15 => ([2, 3, 7, 8, 10, 11], [8, 12, 28, 40]) | 19 => ([2, 3, 7, 8, 10, 11, 12, 13], [8, 12, 28, 40, 48]) | 24 => ([2, 3, 7, 8, 10, 11, 12, 13, 14, 15, 16], [8, 12, 28, 40, 48]) | 27 => ([2, 3, 7, 8, 10, 11, 12, 13, 14, 15, 16, 17], [8, 12, 28, 40, 48]) | 31 => ([2, 3, 7, 8, 10, 11, 12, 13, 14, 15, 16, 17, 18, 19], [8, 12, 28, 40, 48, 72]) | 35 => ([2, 3, 7, 8, 10, 11, 12, 13, 14, 15, 16, 17, 18, 20], [8, 12, 28, 40, 48, 72]) | _ => ([], [])
noncomputable def fin := finK cfg.c sig [.tmp 4, .tmp 5]
noncomputable def F (d : SF × SF × Unit) : Option ((Int × Int × Unit) × (Unit)) := anyK (a9W cfg fin (bd f6) (a6v sig.ps d 199))
variable (k : Nat) (i10 i11 : Int) (x12 : LL) (i13 : Int) (x14 : LI) (x15 : LM) (x16 : LL) (i17 : Int) (x18 : LI) (x19 : LM) (x20 : LI)
noncomputable def l7 : Option ((Int × Int × Unit) × (Unit)) := Vm.runT cfg fin k [.inLoop (sub [1, 1, 1, 1, 1, 0, 1, 0, 0] (bd f6)), .inBlock 0, .code (sub [1, 1, 1, 1, 1, 1] (bd f6))] ⟨[dD, dD, .ref 8 (.root 0), .ref 12 (.root 0), dD, dD, dD, .view 28 (.root 0) 1 false, vI i10, vI i11] ++ a8d 189, [(8, ⟨true, [cQ x12, cI i13, cL x14, ⟨(.sl TMatrix), .sh, x15⟩]⟩), (12, ⟨true, [cQ x16, cI i17, cL x18, ⟨(.sl TMatrix), .sh, x19⟩]⟩), (28, ⟨false, [dL x20]⟩)]⟩
variable (i21 i22 : Int) (x23 : LL) (i24 : Int) (x25 : LI) (x26 : LM) (x27 : LL) (i28 : Int) (x29 : LI) (x30 : LM) (x31 : LI) (x32 : LL)
noncomputable def l15 : Option ((Int × Int × Unit) × (Unit)) := Vm.runT cfg fin k [.inLoop (sub [1, 1, 1, 1, 1, 1, 1, 1, 0, 1, 0, 0] (bd f6)), .inBlock 2, .code (sub [1, 1, 1, 1, 1, 1, 1, 1, 1] (bd f6))] ⟨[dD, dD, .ref 8 (.root 0), .ref 12 (.root 0), dD, dD, dD, .view 28 (.root 0) 1 false, vI i21, dD, .view 40 (.root 0) 1 false, vI i22] ++ a8d 187, [(8, ⟨true, [cQ x23, cI i24, cL x25, ⟨(.sl TMatrix), .sh, x26⟩]⟩), (12, ⟨true, [cQ x27, cI i28, cL x29, ⟨(.sl TMatrix), .sh, x30⟩]⟩), (28, ⟨false, [dL x31]⟩), (40, ⟨false, [dQ x32]⟩)]⟩
variable (i34 i35 i36 : Int) (x37 : LL) (i38 : Int) (x39 : LI) (x40 : LM) (x41 : LL) (i42 : Int) (x43 : LI) (x44 : LM) (x45 : LI) (x46 : LL) (x47 : LI)
noncomputable def l19 : Option ((Int × Int × Unit) × (Unit)) := Vm.runT cfg fin k [.inLoop (sub [1, 1, 1, 1, 1, 1, 1, 1, 0, 1, 0, 0, 1, 0, 0, 1, 1, 0, 0] (bd f6)), .inBlock 4, .inBlock 3, .code (sub [1, 1, 1, 1, 1, 1, 1, 1, 0, 1, 0, 0, 1, 1] (bd f6)), .inLoop (sub [1, 1, 1, 1, 1, 1, 1, 1, 0, 1, 0, 0] (bd f6)), .inBlock 2, .code (sub [1, 1, 1, 1, 1, 1, 1, 1, 1] (bd f6))] ⟨[dD, dD, .ref 8 (.root 0), .ref 12 (.root 0), dD, dD, dD, .view 28 (.root 0) 1 false, vI i34, dD, .view 40 (.root 0) 1 false, vI i35, .view 48 (.root 0) 1 false, vI i36] ++ a8d 185, [(8, ⟨true, [cQ x37, cI i38, cL x39, ⟨(.sl TMatrix), .sh, x40⟩]⟩), (12, ⟨true, [cQ x41, cI i42, cL x43, ⟨(.sl TMatrix), .sh, x44⟩]⟩), (28, ⟨false, [dL x45]⟩), (40, ⟨false, [dQ x46]⟩), (48, ⟨false, [dL x47]⟩)]⟩
variable (i50 i51 i52 i53 i54 i55 : Int) (x56 : LI) (i57 i58 i59 : Int) (x60 : LI) (i61 : Int) (x62 : LL) (i63 : Int) (x64 : LI) (x65 : LM) (x66 : LL) (i67 : Int) (x68 : LI) (x69 : LM) (x70 : LI) (x71 : LL) (x72 : LI)
noncomputable def l24 : Option ((Int × Int × Unit) × (Unit)) := Vm.runT cfg fin k [.inLoop (sub [1, 1, 1, 1, 1, 1, 1, 1, 0, 1, 0, 0, 1, 0, 0, 1, 1, 0, 0, 1, 0, 0, 1, 1, 1, 0, 0] (bd f6)), .inBlock 6, .inBlock 5, .code (sub [1, 1, 1, 1, 1, 1, 1, 1, 0, 1, 0, 0, 1, 0, 0, 1, 1, 0, 0, 1, 1] (bd f6)), .inLoop (sub [1, 1, 1, 1, 1, 1, 1, 1, 0, 1, 0, 0, 1, 0, 0, 1, 1, 0, 0] (bd f6)), .inBlock 4, .inBlock 3, .code (sub [1, 1, 1, 1, 1, 1, 1, 1, 0, 1, 0, 0, 1, 1] (bd f6)), .inLoop (sub [1, 1, 1, 1, 1, 1, 1, 1, 0, 1, 0, 0] (bd f6)), .inBlock 2, .code (sub [1, 1, 1, 1, 1, 1, 1, 1, 1] (bd f6))] ⟨[dD, dD, .ref 8 (.root 0), .ref 12 (.root 0), dD, dD, dD, .view 28 (.root 0) 1 false, vI i50, dD, .view 40 (.root 0) 1 false, vI i51, .view 48 (.root 0) 1 false, vI i52, .rptr true [cI i53, cI i54, cI i55, cL x56], .rptr true [cI i57, cI i58, cI i59, cL x60], vI i61] ++ a8d 182, [(8, ⟨true, [cQ x62, cI i63, cL x64, ⟨(.sl TMatrix), .sh, x65⟩]⟩), (12, ⟨true, [cQ x66, cI i67, cL x68, ⟨(.sl TMatrix), .sh, x69⟩]⟩), (28, ⟨false, [dL x70]⟩), (40, ⟨false, [dQ x71]⟩), (48, ⟨false, [dL x72]⟩)]⟩
variable (i73 i74 i75 i76 i77 i78 : Int) (x79 : LI) (i80 i81 i82 : Int) (x83 : LI) (i84 i85 : Int) (x86 : LL) (i87 : Int) (x88 : LI) (x89 : LM) (x90 : LL) (i91 : Int) (x92 : LI) (x93 : LM) (x94 : LI) (x95 : LL) (x96 : LI)
noncomputable def l27 : Option ((Int × Int × Unit) × (Unit)) := Vm.runT cfg fin k [.inLoop (sub [1, 1, 1, 1, 1, 1, 1, 1, 0, 1, 0, 0, 1, 0, 0, 1, 1, 0, 0, 1, 0, 0, 1, 1, 1, 0, 0, 1, 0, 0, 1, 0, 0] (bd f6)), .inBlock 8, .inBlock 7, .code (sub [1, 1, 1, 1, 1, 1, 1, 1, 0, 1, 0, 0, 1, 0, 0, 1, 1, 0, 0, 1, 0, 0, 1, 1, 1, 0, 0, 1, 1] (bd f6)), .inLoop (sub [1, 1, 1, 1, 1, 1, 1, 1, 0, 1, 0, 0, 1, 0, 0, 1, 1, 0, 0, 1, 0, 0, 1, 1, 1, 0, 0] (bd f6)), .inBlock 6, .inBlock 5, .code (sub [1, 1, 1, 1, 1, 1, 1, 1, 0, 1, 0, 0, 1, 0, 0, 1, 1, 0, 0, 1, 1] (bd f6)), .inLoop (sub [1, 1, 1, 1, 1, 1, 1, 1, 0, 1, 0, 0, 1, 0, 0, 1, 1, 0, 0] (bd f6)), .inBlock 4, .inBlock 3, .code (sub [1, 1, 1, 1, 1, 1, 1, 1, 0, 1, 0, 0, 1, 1] (bd f6)), .inLoop (sub [1, 1, 1, 1, 1, 1, 1, 1, 0, 1, 0, 0] (bd f6)), .inBlock 2, .code (sub [1, 1, 1, 1, 1, 1, 1, 1, 1] (bd f6))] ⟨[dD, dD, .ref 8 (.root 0), .ref 12 (.root 0), dD, dD, dD, .view 28 (.root 0) 1 false, vI i73, dD, .view 40 (.root 0) 1 false, vI i74, .view 48 (.root 0) 1 false, vI i75, .rptr true [cI i76, cI i77, cI i78, cL x79], .rptr true [cI i80, cI i81, cI i82, cL x83], vI i84, vI i85] ++ a8d 181, [(8, ⟨true, [cQ x86, cI i87, cL x88, ⟨(.sl TMatrix), .sh, x89⟩]⟩), (12, ⟨true, [cQ x90, cI i91, cL x92, ⟨(.sl TMatrix), .sh, x93⟩]⟩), (28, ⟨false, [dL x94]⟩), (40, ⟨false, [dQ x95]⟩), (48, ⟨false, [dL x96]⟩)]⟩
variable (i97 i98 i99 i100 i101 i102 : Int) (x103 : LI) (i104 i105 i106 : Int) (x107 : LI) (i108 i109 i110 : Int) (x111 : LL) (i112 : Int) (x113 : LI) (x114 : LM) (x115 : LL) (i116 : Int) (x117 : LI) (x118 : LM) (x119 : LI) (x120 : LL) (x121 x122 : LI)
noncomputable def l31 : Option ((Int × Int × Unit) × (Unit)) := Vm.runT cfg fin k [.inLoop (sub [1, 1, 1, 1, 1, 1, 1, 1, 0, 1, 0, 0, 1, 0, 0, 1, 1, 0, 0, 1, 0, 0, 1, 1, 1, 0, 0, 1, 0, 0, 1, 0, 0, 1, 0, 0, 1, 0, 1, 0, 0] (bd f6)), .inBlock 10, .code (sub [1, 1, 1, 1, 1, 1, 1, 1, 0, 1, 0, 0, 1, 0, 0, 1, 1, 0, 0, 1, 0, 0, 1, 1, 1, 0, 0, 1, 0, 0, 1, 0, 0, 1, 0, 0, 1, 1] (bd f6)), .inBlock 9, .code (sub [1, 1, 1, 1, 1, 1, 1, 1, 0, 1, 0, 0, 1, 0, 0, 1, 1, 0, 0, 1, 0, 0, 1, 1, 1, 0, 0, 1, 0, 0, 1, 0, 0, 1, 1] (bd f6)), .inLoop (sub [1, 1, 1, 1, 1, 1, 1, 1, 0, 1, 0, 0, 1, 0, 0, 1, 1, 0, 0, 1, 0, 0, 1, 1, 1, 0, 0, 1, 0, 0, 1, 0, 0] (bd f6)), .inBlock 8, .inBlock 7, .code (sub [1, 1, 1, 1, 1, 1, 1, 1, 0, 1, 0, 0, 1, 0, 0, 1, 1, 0, 0, 1, 0, 0, 1, 1, 1, 0, 0, 1, 1] (bd f6)), .inLoop (sub [1, 1, 1, 1, 1, 1, 1, 1, 0, 1, 0, 0, 1, 0, 0, 1, 1, 0, 0, 1, 0, 0, 1, 1, 1, 0, 0] (bd f6)), .inBlock 6, .inBlock 5, .code (sub [1, 1, 1, 1, 1, 1, 1, 1, 0, 1, 0, 0, 1, 0, 0, 1, 1, 0, 0, 1, 1] (bd f6)), .inLoop (sub [1, 1, 1, 1, 1, 1, 1, 1, 0, 1, 0, 0, 1, 0, 0, 1, 1, 0, 0] (bd f6)), .inBlock 4, .inBlock 3, .code (sub [1, 1, 1, 1, 1, 1, 1, 1, 0, 1, 0, 0, 1, 1] (bd f6)), .inLoop (sub [1, 1, 1, 1, 1, 1, 1, 1, 0, 1, 0, 0] (bd f6)), .inBlock 2, .code (sub [1, 1, 1, 1, 1, 1, 1, 1, 1] (bd f6))] ⟨[dD, dD, .ref 8 (.root 0), .ref 12 (.root 0), dD, dD, dD, .view 28 (.root 0) 1 false, vI i97, dD, .view 40 (.root 0) 1 false, vI i98, .view 48 (.root 0) 1 false, vI i99, .rptr true [cI i100, cI i101, cI i102, cL x103], .rptr true [cI i104, cI i105, cI i106, cL x107], vI i108, vI i109, .view 72 (.root 0) 1 false, vI i110] ++ a8d 179, [(8, ⟨true, [cQ x111, cI i112, cL x113, ⟨(.sl TMatrix), .sh, x114⟩]⟩), (12, ⟨true, [cQ x115, cI i116, cL x117, ⟨(.sl TMatrix), .sh, x118⟩]⟩), (28, ⟨false, [dL x119]⟩), (40, ⟨false, [dQ x120]⟩), (48, ⟨false, [dL x121]⟩), (72, ⟨false, [dL x122]⟩)]⟩
variable (i124 i125 i126 i127 i128 i129 : Int) (x130 : LI) (i131 i132 i133 : Int) (x134 : LI) (i135 i136 i137 : Int) (x138 : LL) (i139 : Int) (x140 : LI) (x141 : LM) (x142 : LL) (i143 : Int) (x144 : LI) (x145 : LM) (x146 : LI) (x147 : LL) (x148 x149 : LI)
noncomputable def l35 : Option ((Int × Int × Unit) × (Unit)) := Vm.runT cfg fin k [.inLoop (sub [1, 1, 1, 1, 1, 1, 1, 1, 0, 1, 0, 0, 1, 0, 0, 1, 1, 0, 0, 1, 0, 0, 1, 1, 1, 0, 0, 1, 0, 0, 1, 0, 0, 1, 0, 0, 1, 1, 0, 1, 0, 0] (bd f6)), .inBlock 12, .code (sub [1, 1, 1, 1, 1, 1, 1, 1, 0, 1, 0, 0, 1, 0, 0, 1, 1, 0, 0, 1, 0, 0, 1, 1, 1, 0, 0, 1, 0, 0, 1, 0, 0, 1, 0, 0, 1, 1, 1] (bd f6)), .inBlock 9, .code (sub [1, 1, 1, 1, 1, 1, 1, 1, 0, 1, 0, 0, 1, 0, 0, 1, 1, 0, 0, 1, 0, 0, 1, 1, 1, 0, 0, 1, 0, 0, 1, 0, 0, 1, 1] (bd f6)), .inLoop (sub [1, 1, 1, 1, 1, 1, 1, 1, 0, 1, 0, 0, 1, 0, 0, 1, 1, 0, 0, 1, 0, 0, 1, 1, 1, 0, 0, 1, 0, 0, 1, 0, 0] (bd f6)), .inBlock 8, .inBlock 7, .code (sub [1, 1, 1, 1, 1, 1, 1, 1, 0, 1, 0, 0, 1, 0, 0, 1, 1, 0, 0, 1, 0, 0, 1, 1, 1, 0, 0, 1, 1] (bd f6)), .inLoop (sub [1, 1, 1, 1, 1, 1, 1, 1, 0, 1, 0, 0, 1, 0, 0, 1, 1, 0, 0, 1, 0, 0, 1, 1, 1, 0, 0] (bd f6)), .inBlock 6, .inBlock 5, .code (sub [1, 1, 1, 1, 1, 1, 1, 1, 0, 1, 0, 0, 1, 0, 0, 1, 1, 0, 0, 1, 1] (bd f6)), .inLoop (sub [1, 1, 1, 1, 1, 1, 1, 1, 0, 1, 0, 0, 1, 0, 0, 1, 1, 0, 0] (bd f6)), .inBlock 4, .inBlock 3, .code (sub [1, 1, 1, 1, 1, 1, 1, 1, 0, 1, 0, 0, 1, 1] (bd f6)), .inLoop (sub [1, 1, 1, 1, 1, 1, 1, 1, 0, 1, 0, 0] (bd f6)), .inBlock 2, .code (sub [1, 1, 1, 1, 1, 1, 1, 1, 1] (bd f6))] ⟨[dD, dD, .ref 8 (.root 0), .ref 12 (.root 0), dD, dD, dD, .view 28 (.root 0) 1 false, vI i124, dD, .view 40 (.root 0) 1 false, vI i125, .view 48 (.root 0) 1 false, vI i126, .rptr true [cI i127, cI i128, cI i129, cL x130], .rptr true [cI i131, cI i132, cI i133, cL x134], vI i135, vI i136, .view 72 (.root 0) 1 false, dD, vI i137] ++ a8d 178, [(8, ⟨true, [cQ x138, cI i139, cL x140, ⟨(.sl TMatrix), .sh, x141⟩]⟩), (12, ⟨true, [cQ x142, cI i143, cL x144, ⟨(.sl TMatrix), .sh, x145⟩]⟩), (28, ⟨false, [dL x146]⟩), (40, ⟨false, [dQ x147]⟩), (48, ⟨false, [dL x148]⟩), (72, ⟨false, [dL x149]⟩)]⟩
theorem l7_eq : l7 (k + 1) i10 i11 x12 i13 x14 x15 x16 i17 x18 x19 x20 = if (decide (i11 < (x14.length : Int))) = true then if x20.length + [i10].length ≤ bigA then if 0 ≤ i11 ∧ i11 < (x14.length : Int) then if 0 ≤ i11 ∧ i11 < (x18.length : Int) then l7 k (IntKind.i64.wrap (i10 + (IntKind.i64.wrap ((x14.getD i11.toNat 0 : Int) * (x18.getD i11.toNat 0 : Int))))) (IntKind.i64.wrap (i11 + 1)) x12 i13 x14 x15 x16 i17 x18 x19 (x20 ++ [i10]) else none else none else none else if (decide (i10 > 60)) = true then some (((0 : Int), ((5 : Int), ())), ()) else l15 k i10 (0 : Int) x12 i13 x14 x15 x16 i17 x18 x19 x20 ([] : LL) := by kernel_rfl
theorem l15_eq : l15 (k + 1) i21 i22 x23 i24 x25 x26 x27 i28 x29 x30 x31 x32 = if (decide (i22 < (x25.length : Int))) = true then (Ab3.F (x23, i22, ())).bind fun r33 => l19 k i21 i22 (0 : Int) x23 i24 x25 x26 x27 i28 x29 x30 x31 x32 r33.1.1 else (Ag3.F (i24, i21, x32, ())).bind fun r151 => some ((IntKind.i64.wrap (i21 - (r151.1.1.length : Int)), ((0 : Int), ())), ()) := by kernel_rfl
theorem l19_eq : l19 (k + 1) i34 i35 i36 x37 i38 x39 x40 x41 i42 x43 x44 x45 x46 x47 = if (decide (i36 < (x47.length : Int))) = true then (Aa7.F ((x41, (i42, (x43, x44))), i35, i36, ())).bind fun r48 => (Aa7.F ((x37, (i38, (x39, x40))), i35, i36, ())).bind fun r49 => l24 k i34 i35 i36 r48.1.1.1 r48.1.1.2.1 r48.1.1.2.2.1 r48.1.1.2.2.2 r49.1.1.1 r49.1.1.2.1 r49.1.1.2.2.1 r49.1.1.2.2.2 (0 : Int) x37 i38 x39 x40 x41 i42 x43 x44 x45 x46 x47 else l15 k i34 (IntKind.i64.wrap (i35 + 1)) x37 i38 x39 x40 x41 i42 x43 x44 x45 x46 := by kernel_rfl
theorem l24_eq : l24 (k + 1) i50 i51 i52 i53 i54 i55 x56 i57 i58 i59 x60 i61 x62 i63 x64 x65 x66 i67 x68 x69 x70 x71 x72 = if (decide (i61 < i54)) = true then l27 k i50 i51 i52 i53 i54 i55 x56 i57 i58 i59 x60 i61 (0 : Int) x62 i63 x64 x65 x66 i67 x68 x69 x70 x71 x72 else l19 k i50 i51 (IntKind.i64.wrap (i52 + 1)) x62 i63 x64 x65 x66 i67 x68 x69 x70 x71 x72 := by kernel_rfl
theorem l27_eq : l27 (k + 1) i73 i74 i75 i76 i77 i78 x79 i80 i81 i82 x83 i84 i85 x86 i87 x88 x89 x90 i91 x92 x93 x94 x95 x96 = if (decide (i85 < i82)) = true then if 0 ≤ i73 ∧ i73 ≤ (bigN : Int) then l31 k i73 i74 i75 i76 i77 i78 x79 i80 i81 i82 x83 i84 i85 (0 : Int) x86 i87 x88 x89 x90 i91 x92 x93 x94 x95 x96 (List.replicate i73.toNat (0 : Int)) else none else l24 k i73 i74 i75 i76 i77 i78 x79 i80 i81 i82 x83 (IntKind.i64.wrap (i84 + 1)) x86 i87 x88 x89 x90 i91 x92 x93 x94 x95 x96 := by kernel_rfl
theorem l31_eq : l31 (k + 1) i97 i98 i99 i100 i101 i102 x103 i104 i105 i106 x107 i108 i109 i110 x111 i112 x113 x114 x115 i116 x117 x118 x119 x120 x121 x122 = if (decide (i110 < i102)) = true then if 0 ≤ i99 ∧ i99 < (x121.length : Int) then if 0 ≤ (x121.getD i99.toNat 0 : Int) ∧ (x121.getD i99.toNat 0 : Int) < (x119.length : Int) then if 0 ≤ (IntKind.i64.wrap ((IntKind.i64.wrap ((x119.getD (x121.getD i99.toNat 0 : Int).toNat 0) + (IntKind.i64.wrap (i110 * i106)))) + i109)) ∧ (IntKind.i64.wrap ((IntKind.i64.wrap ((x119.getD (x121.getD i99.toNat 0 : Int).toNat 0) + (IntKind.i64.wrap (i110 * i106)))) + i109)) < (x122.length : Int) then if 0 ≤ (IntKind.i64.wrap ((IntKind.i64.wrap (i108 * i102)) + i110)) ∧ (IntKind.i64.wrap ((IntKind.i64.wrap (i108 * i102)) + i110)) < (x103.length : Int) then if 0 ≤ (IntKind.i64.wrap ((IntKind.i64.wrap ((x119.getD (x121.getD i99.toNat 0 : Int).toNat 0) + (IntKind.i64.wrap (i110 * i106)))) + i109)) ∧ (IntKind.i64.wrap ((IntKind.i64.wrap ((x119.getD (x121.getD i99.toNat 0 : Int).toNat 0) + (IntKind.i64.wrap (i110 * i106)))) + i109)) < (x122.length : Int) then let y123 : LI := x122.set (IntKind.i64.wrap ((IntKind.i64.wrap ((x119.getD (x121.getD i99.toNat 0 : Int).toNat 0) + (IntKind.i64.wrap (i110 * i106)))) + i109)).toNat (IntKind.i64.wrap ((x122.getD (IntKind.i64.wrap ((IntKind.i64.wrap ((x119.getD (x121.getD i99.toNat 0 : Int).toNat 0) + (IntKind.i64.wrap (i110 * i106)))) + i109)).toNat 0) + (x103.getD (IntKind.i64.wrap ((IntKind.i64.wrap (i108 * i102)) + i110)).toNat 0 : Int))); l31 k i97 i98 i99 i100 i101 i102 x103 i104 i105 i106 x107 i108 i109 (IntKind.i64.wrap (i110 + 1)) x111 i112 x113 x114 x115 i116 x117 x118 x119 x120 x121 y123 else none else none else none else none else none else l35 k i97 i98 i99 i100 i101 i102 x103 i104 i105 i106 x107 i108 i109 (0 : Int) x111 i112 x113 x114 x115 i116 x117 x118 x119 x120 x121 x122 := by kernel_rfl
theorem l35_eq : l35 (k + 1) i124 i125 i126 i127 i128 i129 x130 i131 i132 i133 x134 i135 i136 i137 x138 i139 x140 x141 x142 i143 x144 x145 x146 x147 x148 x149 = if (decide (i137 < i132)) = true then if 0 ≤ i125 ∧ i125 < (x146.length : Int) then if 0 ≤ (IntKind.i64.wrap ((IntKind.i64.wrap ((x146.getD i125.toNat 0 : Int) + (IntKind.i64.wrap (i135 * i132)))) + i137)) ∧ (IntKind.i64.wrap ((IntKind.i64.wrap ((x146.getD i125.toNat 0 : Int) + (IntKind.i64.wrap (i135 * i132)))) + i137)) < (x149.length : Int) then if 0 ≤ (IntKind.i64.wrap ((IntKind.i64.wrap (i137 * i133)) + i136)) ∧ (IntKind.i64.wrap ((IntKind.i64.wrap (i137 * i133)) + i136)) < (x134.length : Int) then if i139 = 0 then none else if 0 ≤ (IntKind.i64.wrap ((IntKind.i64.wrap ((x146.getD i125.toNat 0 : Int) + (IntKind.i64.wrap (i135 * i132)))) + i137)) ∧ (IntKind.i64.wrap ((IntKind.i64.wrap ((x146.getD i125.toNat 0 : Int) + (IntKind.i64.wrap (i135 * i132)))) + i137)) < (x149.length : Int) then let y150 : LI := x149.set (IntKind.i64.wrap ((IntKind.i64.wrap ((x146.getD i125.toNat 0 : Int) + (IntKind.i64.wrap (i135 * i132)))) + i137)).toNat ((IntKind.i64.wrap ((x149.getD (IntKind.i64.wrap ((IntKind.i64.wrap ((x146.getD i125.toNat 0 : Int) + (IntKind.i64.wrap (i135 * i132)))) + i137)).toNat 0) + (IntKind.i64.wrap ((IntKind.i64.wrap (i139 - 1)) * (x134.getD (IntKind.i64.wrap ((IntKind.i64.wrap (i137 * i133)) + i136)).toNat 0 : Int))))).tmod i139); l35 k i124 i125 i126 i127 i128 i129 x130 i131 i132 i133 x134 i135 i136 (IntKind.i64.wrap (i137 + 1)) x138 i139 x140 x141 x142 i143 x144 x145 x146 x147 x148 y150 else none else none else none else none else if x147.length + [x149].length ≤ bigA then l27 k i124 i125 i126 i127 i128 i129 x130 i131 i132 i133 x134 i135 (IntKind.i64.wrap (i136 + 1)) x138 i139 x140 x141 x142 i143 x144 x145 x146 (x147 ++ [x149]) x148 else none := by kernel_rfl
variable (toArray_1 : LL) (toArray_2 : Int) (toArray_3 : LI) (toArray_4 : LM) (a_5 : LL) (a_6 : Int) (a_7 : LI) (a_8 : LM)
noncomputable def T : Option ((Int × Int × Unit) × (Unit)) := (Ah5.F ((toArray_1, (toArray_2, (toArray_3, toArray_4))), (a_5, (a_6, (a_7, a_8))), ())).bind fun r9 => if (r9.1.1 != 0) = true then some (((0 : Int), (r9.1.1, ())), ()) else l7 k (0 : Int) (0 : Int) toArray_1 toArray_2 toArray_3 toArray_4 a_5 a_6 a_7 a_8 ([] : LI)
theorem of {r} (h : Ev (fun k => T k toArray_1 toArray_2 toArray_3 toArray_4 a_5 a_6 a_7 a_8) r) : F ((toArray_1, (toArray_2, (toArray_3, toArray_4))), (a_5, (a_6, (a_7, a_8))), ()) = some r := Ev.run (fun k => by kernel_rfl) h
theorem S : a3D prog ⟨6, sig, F⟩ := sound_k (res := [.tmp 4, .tmp 5]) func6 (cok (cM ⟨Ah5.S, cM ⟨Ab3.S, cM ⟨Aa7.S, cM ⟨Ag3.S, nM⟩⟩⟩⟩))
end Aa1
namespace Ab5
noncomputable def sig : Sig := ⟨[pL], [oL]⟩
noncomputable def cfg : Cfg := cl (cx []) fun id => match id with | 3 => ([0, 3, 4], [12]) | _ => ([], [])
noncomputable def fin := finK cfg.c sig [.tmp 2]
noncomputable def F (d : LI × Unit) : OL := anyK (a9W cfg fin (bd f22) (a6v sig.ps d 22))
variable (k : Nat) (x2 : LI) (i3 : Int) (x4 : LI)
noncomputable def l3 : OL := Vm.runT cfg fin k [.inLoop (sub [1, 1, 0, 1, 0, 0] (bd f22)), .inBlock 0, .code (sub [1, 1, 1] (bd f22))] ⟨[vL x2, dD, dD, .view 12 (.root 0) 1 false, vI i3] ++ a8d 17, [(12, ⟨false, [dL x4]⟩)]⟩
theorem l3_eq : l3 (k + 1) x2 i3 x4 = if (decide (i3 < (x2.length : Int))) = true then if 0 ≤ i3 ∧ i3 < (x2.length : Int) then if 0 ≤ i3 ∧ i3 < (x4.length : Int) then l3 k x2 (IntKind.i64.wrap (i3 + 1)) (x4.set i3.toNat (x2.getD i3.toNat 0 : Int)) else none else none else some ((x4, ()), ()) := by kernel_rfl
variable (a_1 : LI)
noncomputable def T : OL := if 0 ≤ (a_1.length : Int) ∧ (a_1.length : Int) ≤ (bigN : Int) then l3 k a_1 (0 : Int) (List.replicate (a_1.length : Int).toNat (0 : Int)) else none
theorem of {r} (h : Ev (fun k => T k a_1) r) : F (a_1, ()) = some r := Ev.run (fun k => by kernel_rfl) h
theorem S : a3D prog ⟨22, sig, F⟩ := sound_k (res := [.tmp 2]) func22 (cok nM)
end Ab5
namespace Al1
noncomputable def sig : Sig := ⟨[pM], [oM]⟩
noncomputable def cfg : Cfg := cf (cx [⟨22, Ab5.sig, Ab5.F⟩])
noncomputable def fin := finK cfg.c sig [.cell 2 53]
noncomputable def F (d : MX × Unit) : OM := anyK (a9W cfg fin (bd f37) (a6v sig.ps d 18))
variable (a_1 a_2 a_3 : Int) (a_4 : LI)
noncomputable def T : OM := (Ab5.F (a_4, ())).bind fun r5 => some (((a_1, (a_2, (a_3, r5.1.1))), ()), ())
theorem eq : F ((a_1, (a_2, (a_3, a_4))), ()) = T a_1 a_2 a_3 a_4 := eq_any fun k => by kernel_rfl
theorem S : a3D prog ⟨37, sig, F⟩ := sound_k (res := [.cell 2 53]) func37 (cok (cM ⟨Ab5.S, nM⟩))
end Al1
namespace Ah1
noncomputable def sig : Sig := ⟨[.val false (.sl TMatrix)], [(.val false, (.sl TMatrix), .deep)]⟩
noncomputable def cfg : Cfg := cl (cx [⟨37, Al1.sig, Al1.F⟩]) fun id => match id with | 3 => ([0, 3, 4], [12]) | _ => ([], [])
noncomputable def fin := finK cfg.c sig [.tmp 2]
noncomputable def F (d : LM × Unit) : Option ((LM × Unit) × (Unit)) := anyK (a9W cfg fin (bd f12) (a6v sig.ps d 23))
variable (k : Nat) (x2 : LM) (i3 : Int) (x4 : LM)
noncomputable def l3 : Option ((LM × Unit) × (Unit)) := Vm.runT cfg fin k [.inLoop (sub [1, 1, 0, 1, 0, 0] (bd f12)), .inBlock 0, .code (sub [1, 1, 1] (bd f12))] ⟨[.val false [⟨(.sl TMatrix), .sh, x2⟩], dD, dD, .view 12 (.root 0) 1 false, vI i3] ++ a8d 18, [(12, ⟨false, [⟨(.sl TMatrix), .deep, x4⟩]⟩)]⟩
theorem l3_eq : l3 (k + 1) x2 i3 x4 = if (decide (i3 < (x2.length : Int))) = true then if 0 ≤ i3 ∧ i3 < (x2.length : Int) then (Al1.F (x2.getD i3.toNat (0, 0, 0, ([] : LI)), ())).bind fun r5 => if 0 ≤ i3 ∧ i3 < (x4.length : Int) then l3 k x2 (IntKind.i64.wrap (i3 + 1)) (x4.set i3.toNat r5.1.1) else none else none else some ((x4, ()), ()) := by kernel_rfl
variable (a_1 : LM)
noncomputable def T : Option ((LM × Unit) × (Unit)) := if 0 ≤ (a_1.length : Int) ∧ (a_1.length : Int) ≤ (bigN : Int) then l3 k a_1 (0 : Int) (List.replicate (a_1.length : Int).toNat (0, 0, 0, ([] : LI))) else none
theorem of {r} (h : Ev (fun k => T k a_1) r) : F (a_1, ()) = some r := Ev.run (fun k => by kernel_rfl) h
theorem S : a3D prog ⟨12, sig, F⟩ := sound_k (res := [.tmp 2]) func12 (cok (cM ⟨Al1.S, nM⟩))
end Ah1
namespace Ah0
noncomputable def sig : Sig := ⟨[pQ], [oQ]⟩
noncomputable def cfg : Cfg := cl (cx [⟨22, Ab5.sig, Ab5.F⟩]) fun id => match id with | 3 => ([0, 3, 4], [12]) | _ => ([], [])
noncomputable def fin := finK cfg.c sig [.tmp 2]
noncomputable def F (d : LL × Unit) : OQ := anyK (a9W cfg fin (bd f53) (a6v sig.ps d 23))
variable (k : Nat) (x2 : LL) (i3 : Int) (x4 : LL)
noncomputable def l3 : OQ := Vm.runT cfg fin k [.inLoop (sub [1, 1, 0, 1, 0, 0] (bd f53)), .inBlock 0, .code (sub [1, 1, 1] (bd f53))] ⟨[vQ x2, dD, dD, .view 12 (.root 0) 1 false, vI i3] ++ a8d 18, [(12, ⟨false, [dQ x4]⟩)]⟩
theorem l3_eq : l3 (k + 1) x2 i3 x4 = if (decide (i3 < (x2.length : Int))) = true then if 0 ≤ i3 ∧ i3 < (x2.length : Int) then (Ab5.F (x2.getD i3.toNat ([] : LI), ())).bind fun r5 => if 0 ≤ i3 ∧ i3 < (x4.length : Int) then l3 k x2 (IntKind.i64.wrap (i3 + 1)) (x4.set i3.toNat r5.1.1) else none else none else some ((x4, ()), ()) := by kernel_rfl
variable (a_1 : LL)
noncomputable def T : OQ := if 0 ≤ (a_1.length : Int) ∧ (a_1.length : Int) ≤ (bigN : Int) then l3 k a_1 (0 : Int) (List.replicate (a_1.length : Int).toNat ([] : LI)) else none
theorem of {r} (h : Ev (fun k => T k a_1) r) : F (a_1, ()) = some r := Ev.run (fun k => by kernel_rfl) h
theorem S : a3D prog ⟨53, sig, F⟩ := sound_k (res := [.tmp 2]) func53 (cok (cM ⟨Ab5.S, nM⟩))
end Ah0
namespace Al0
noncomputable def sig : Sig := ⟨[pC], [oC]⟩
noncomputable def cfg : Cfg := cf (cx [⟨53, Ah0.sig, Ah0.F⟩])
noncomputable def fin := finK cfg.c sig [.cell 2 32]
noncomputable def F (d : LL × Unit) : OQ := anyK (a9W cfg fin (bd f21) (a6v sig.ps d 9))
variable (a_1 : LL)
noncomputable def T : OQ := (Ah0.F (a_1, ())).bind fun r2 => some ((r2.1.1, ()), ())
theorem eq : F (a_1, ()) = T a_1 := eq_any fun k => by kernel_rfl
theorem S : a3D prog ⟨21, sig, F⟩ := sound_k (res := [.cell 2 32]) func21 (cok (cM ⟨Ah0.S, nM⟩))
end Al0
namespace Ad5
noncomputable def sig : Sig := ⟨[pS], [oS]⟩
noncomputable def cfg : Cfg := cf (cx [⟨12, Ah1.sig, Ah1.F⟩, ⟨21, Al0.sig, Al0.F⟩, ⟨22, Ab5.sig, Ab5.F⟩])
noncomputable def fin := finK cfg.c sig [.cell 2 35]
noncomputable def F (d : SF × Unit) : OS := anyK (a9W cfg fin (bd f7) (a6v sig.ps d 20))
variable (a_1 : LL) (a_2 : Int) (a_3 : LI) (a_4 : LM)
noncomputable def T : OS := (Al0.F (a_1, ())).bind fun r5 => (Ab5.F (a_3, ())).bind fun r6 => (Ah1.F (a_4, ())).bind fun r7 => some (((r5.1.1, (a_2, (r6.1.1, r7.1.1))), ()), ())
theorem eq : F ((a_1, (a_2, (a_3, a_4))), ()) = T a_1 a_2 a_3 a_4 := eq_any fun k => by kernel_rfl
theorem S : a3D prog ⟨7, sig, F⟩ := sound_k (res := [.cell 2 35]) func7 (cok (cM ⟨Ah1.S, cM ⟨Al0.S, cM ⟨Ab5.S, nM⟩⟩⟩))
end Ad5
namespace Ah4
noncomputable def sig : Sig := ⟨[.val false (.sl TSheaf), .fnx ⟨[(true, TSheaf)], [oB]⟩], [oI]⟩
noncomputable def cfg : Cfg := cl (cx []) fun id => match id with | 2 => ([0, 1, 7, 8], []) | _ => ([], [])
noncomputable def fin := finK cfg.c sig [.tmp 4]
noncomputable def F (d : List SF × ((SF × Unit) → Option (Bool × Unit)) × Unit) : OI := anyK (a9W cfg fin (bd f79) (a6v sig.ps d 19))
variable (k : Nat) (x3 : List SF) (f4 : (SF × Unit) → Option (Bool × Unit)) (i5 i6 : Int)
noncomputable def l2 : OI := Vm.runT cfg fin k [.inLoop (sub [1, 0, 1, 0, 0] (bd f79)), .inBlock 0, .code (sub [1, 1] (bd f79))] ⟨[.val false [⟨(.sl TSheaf), .sh, x3⟩], .fnx ⟨[(true, TSheaf)], [(.val false, .bool, .deep)]⟩ f4, dD, dD, dD, dD, dD, vI i5, vI i6] ++ a8d 10, []⟩
theorem l2_eq : l2 (k + 1) x3 f4 i5 i6 = if (decide (i6 < i5)) = true then if 0 ≤ i6 ∧ i6 < (x3.length : Int) then (f4 (x3.getD i6.toNat (([] : LL), 0, ([] : LI), ([] : LM)), ())).bind fun r7 => if r7.1 = true then some ((i6, ()), ()) else l2 k x3 f4 i5 (IntKind.i64.wrap (i6 + 1)) else none else some (((-1 : Int), ()), ()) := by kernel_rfl
variable (s_1 : List SF) (f_2 : (SF × Unit) → Option (Bool × Unit))
noncomputable def T : OI := l2 k s_1 f_2 (s_1.length : Int) (0 : Int)
theorem of {r} (h : Ev (fun k => T k s_1 f_2) r) : F (s_1, f_2, ()) = some r := Ev.run (fun k => by kernel_rfl) h
theorem S : a3D prog ⟨79, sig, F⟩ := sound_k (res := [.tmp 4]) func79 (cok nM)
end Ah4
namespace Ai1
noncomputable def sig : Sig := ⟨[.val false (.sl TSheaf), .fnx ⟨[(true, TSheaf)], [oB]⟩], [oB]⟩
noncomputable def cfg : Cfg := cf (cx [⟨79, Ah4.sig, Ah4.F⟩])
noncomputable def fin := finK cfg.c sig [.tmp 4]
noncomputable def F (d : List SF × ((SF × Unit) → Option (Bool × Unit)) × Unit) : OB := anyK (a9W cfg fin (bd f54) (a6v sig.ps d 9))
variable (s_1 : List SF) (f_2 : (SF × Unit) → Option (Bool × Unit))
noncomputable def T : OB := (Ah4.F (s_1, f_2, ())).bind fun r3 => some ((decide (r3.1.1 ≥ 0), ()), ())
theorem eq : F (s_1, f_2, ()) = T s_1 f_2 := eq_any fun k => by kernel_rfl
theorem S : a3D prog ⟨54, sig, F⟩ := sound_k (res := [.tmp 4]) func54 (cok (cM ⟨Ah4.S, nM⟩))
end Ai1
namespace Ag9
noncomputable def sig : Sig := ⟨[pQ], [oI]⟩
noncomputable def cfg : Cfg := cf (cx [])
noncomputable def fin := finK cfg.c sig [.tmp 2]
noncomputable def F (d : LL × Unit) : OI := anyK (a9W cfg fin (bd f59) (a6v sig.ps d 5))
variable (list_1 : LL)
noncomputable def T : OI := some (((list_1.length : Int), ()), ())
theorem eq : F (list_1, ()) = T list_1 := eq_any fun k => by kernel_rfl
theorem S : a3D prog ⟨59, sig, F⟩ := sound_k (res := [.tmp 2]) func59 (cok nM)
end Ag9
namespace Aa3
noncomputable def sig : Sig := ⟨[pQ], [oL]⟩
noncomputable def cfg : Cfg := cl (⟨a2d tabl, [], [], [], [(91, tI)], []⟩) fun id => match id with | 3 => ([0, 3, 9, 10, 11], []) | 11 => ([6, 25, 26, 27], [24]) | _ => ([], [])
noncomputable def fin := finK cfg.c sig [.tmp 2]
noncomputable def F (d : LL × Unit) : OL := anyK (a9W cfg fin (bd f64) (a6v sig.ps d 36))
variable (k : Nat) (x2 : LL) (i3 : Int) (x4 : LL) (i5 i6 : Int)
noncomputable def l3 : OL := Vm.runT cfg fin k [.inLoop (sub [1, 1, 0, 1, 0, 0] (bd f64)), .inBlock 0, .code (sub [1, 1, 1] (bd f64))] ⟨[vQ x2, dD, dD, vI i3, dD, dD, dD, dD, dD, vQ x4, vI i5, vI i6] ++ a8d 24, []⟩
variable (x7 : LL) (i8 i9 : Int) (x10 : LI)
noncomputable def l11 : OL := Vm.runT cfg fin k [.inLoop (sub [1, 1, 1, 1, 0, 1, 0, 0] (bd f64)), .inBlock 2, .code (sub [1, 1, 1, 1, 1] (bd f64))] ⟨[dD, dD, dD, dD, dD, dD, .view 24 (.root 0) 1 false, dD, dD, dD, dD, dD, dD, dD, dD, dD, dD, dD, dD, dD, dD, dD, dD, dD, dD, vQ x7, vI i8, vI i9] ++ a8d 8, [(24, ⟨false, [dL x10]⟩)]⟩
theorem l3_eq : l3 (k + 1) x2 i3 x4 i5 i6 = if (decide (i6 < i5)) = true then if 0 ≤ i6 ∧ i6 < (x4.length : Int) then if (decide ((IntKind.i64.wrap (i3 + ((x4.getD i6.toNat ([] : LI)).length : Int))) < 0)) = true then none else l3 k x2 (IntKind.i64.wrap (i3 + ((x4.getD i6.toNat ([] : LI)).length : Int))) x4 i5 (IntKind.i64.wrap (i6 + 1)) else none else if 0 ≤ i3 ∧ i3 ≤ (bigN : Int) then l11 k x2 (x2.length : Int) (0 : Int) ([] : LI) else none := by kernel_rfl
theorem l11_eq : l11 (k + 1) x7 i8 i9 x10 = if (decide (i9 < i8)) = true then if 0 ≤ i9 ∧ i9 < (x7.length : Int) then if x10.length + (x7.getD i9.toNat ([] : LI)).length ≤ bigA then l11 k x7 i8 (IntKind.i64.wrap (i9 + 1)) (x10 ++ (x7.getD i9.toNat ([] : LI))) else none else none else some ((x10, ()), ()) := by kernel_rfl
variable (slices_1 : LL)
noncomputable def T : OL := l3 k slices_1 (0 : Int) slices_1 (slices_1.length : Int) (0 : Int)
theorem of {r} (h : Ev (fun k => T k slices_1) r) : F (slices_1, ()) = some r := Ev.run (fun k => by kernel_rfl) h
theorem S : a3D prog ⟨64, sig, F⟩ := sound_k (res := [.tmp 2]) func64 (⟨nM, mixed_ok, tab_ok tab_good, nM, nM, cM ⟨slices_Grow_Lint64_int64.growOK, nM⟩⟩)
end Aa3
namespace Ac0
noncomputable def sig : Sig := ⟨[pL], [oQ]⟩
noncomputable def cfg : Cfg := cl (cx [⟨64, Aa3.sig, Aa3.F⟩]) fun id => match id with | 3 => ([0, 3, 6, 7], [12]) | _ => ([], [])
noncomputable def fin := finK cfg.c sig [.tmp 2]
noncomputable def F (d : LI × Unit) : OQ := anyK (a9W cfg fin (bd f83) (a6v sig.ps d 27))
variable (k : Nat) (x2 : LI) (i3 i4 : Int) (x5 : LL)
noncomputable def l3 : OQ := Vm.runT cfg fin k [.inLoop (sub [1, 1, 0, 1, 0, 0] (bd f83)), .inBlock 0, .code (sub [1, 1, 1] (bd f83))] ⟨[vL x2, dD, dD, .view 12 (.root 0) 1 false, dD, dD, vI i3, vI i4] ++ a8d 19, [(12, ⟨false, [dQ x5]⟩)]⟩
theorem l3_eq : l3 (k + 1) x2 i3 i4 x5 = if (decide (i4 < i3)) = true then if (decide ((x2.length : Int) > 1)) = true then if 0 ≤ (0 : Int) ∧ (0 : Int) ≤ i4 ∧ i4 ≤ (x2.length : Int) then if 0 ≤ (IntKind.i64.wrap (i4 + 1)) ∧ (IntKind.i64.wrap (i4 + 1)) ≤ (x2.length : Int) ∧ (x2.length : Int) ≤ (x2.length : Int) then (Aa3.F ([cutL x2 (0 : Int) i4, cutL x2 (IntKind.i64.wrap (i4 + 1)) (x2.length : Int)], ())).bind fun r6 => if x5.length + [r6.1.1].length ≤ bigA then l3 k x2 i3 (IntKind.i64.wrap (i4 + 1)) (x5 ++ [r6.1.1]) else none else none else none else l3 k x2 i3 (IntKind.i64.wrap (i4 + 1)) x5 else some ((x5, ()), ()) := by kernel_rfl
variable (s_1 : LI)
noncomputable def T : OQ := l3 k s_1 (s_1.length : Int) (0 : Int) ([])
theorem of {r} (h : Ev (fun k => T k s_1) r) : F (s_1, ()) = some r := Ev.run (fun k => by kernel_rfl) h
theorem S : a3D prog ⟨83, sig, F⟩ := sound_k (res := [.tmp 2]) func83 (cok (cM ⟨Aa3.S, nM⟩))
end Ac0
namespace Al2
noncomputable def sig : Sig := ⟨[pQ, pL, .fnx ⟨[(false, tL), (false, tL)], [oI]⟩], [oI, oB]⟩
noncomputable def cfg : Cfg := cl (cx []) fun id => match id with | 3 => ([0, 1, 2, 8, 9, 10], []) | _ => ([], [])
noncomputable def fin := finK cfg.c sig [.tmp 6, .tmp 7]
noncomputable def F (d : LL × LI × ((LI × LI × Unit) → Option (Int × Unit)) × Unit) : Option ((Int × Bool × Unit) × (Unit)) := anyK (a9W cfg fin (bd f113) (a6v sig.ps d 49))
variable (k : Nat) (x4 : LL) (x5 : LI) (f6 : (LI × LI × Unit) → Option (Int × Unit)) (i7 i8 i9 : Int)
noncomputable def l3 : Option ((Int × Bool × Unit) × (Unit)) := Vm.runT cfg fin k [.inLoop (sub [1, 1, 1, 0, 0, 0] (bd f113)), .inBlock 0, .code (sub [1, 1, 1, 1] (bd f113))] ⟨[vQ x4, vL x5, .fnx ⟨[(false, tL), (false, tL)], [(.val false, tI, .deep)]⟩ f6, dD, dD, dD, dD, dD, vI i7, vI i8, vI i9] ++ a8d 38, []⟩
theorem l3_eq : l3 (k + 1) x4 x5 f6 i7 i8 i9 = if (decide (i8 < i9)) = true then if (1 : Int) < 0 then none else if 0 ≤ (IntKind.i64.wrap ((IntKind.u64.wrap (IntKind.i64.wrap (i8 + i9))).fdiv (2 ^ (min (1 : Int).toNat IntKind.u64.bits)))) ∧ (IntKind.i64.wrap ((IntKind.u64.wrap (IntKind.i64.wrap (i8 + i9))).fdiv (2 ^ (min (1 : Int).toNat IntKind.u64.bits)))) < (x4.length : Int) then (f6 (x4.getD (IntKind.i64.wrap ((IntKind.u64.wrap (IntKind.i64.wrap (i8 + i9))).fdiv (2 ^ (min (1 : Int).toNat IntKind.u64.bits)))).toNat ([] : LI), x5, ())).bind fun r10 => if (decide (r10.1 < 0)) = true then l3 k x4 x5 f6 i7 (IntKind.i64.wrap ((IntKind.i64.wrap ((IntKind.u64.wrap (IntKind.i64.wrap (i8 + i9))).fdiv (2 ^ (min (1 : Int).toNat IntKind.u64.bits)))) + 1)) i9 else l3 k x4 x5 f6 i7 i8 (IntKind.i64.wrap ((IntKind.u64.wrap (IntKind.i64.wrap (i8 + i9))).fdiv (2 ^ (min (1 : Int).toNat IntKind.u64.bits)))) else none else if (decide (i8 < i7)) = true then if 0 ≤ i8 ∧ i8 < (x4.length : Int) then (f6 (x4.getD i8.toNat ([] : LI), x5, ())).bind fun r11 => some ((i8, (r11.1 == (0 : Int), ())), ()) else none else some ((i8, (false, ())), ()) := by kernel_rfl
variable (x_1 : LL) (target_2 : LI) (f_3 : (LI × LI × Unit) → Option (Int × Unit))
noncomputable def T : Option ((Int × Bool × Unit) × (Unit)) := l3 k x_1 target_2 f_3 (x_1.length : Int) (0 : Int) (x_1.length : Int)
theorem of {r} (h : Ev (fun k => T k x_1 target_2 f_3) r) : F (x_1, target_2, f_3, ()) = some r := Ev.run (fun k => by kernel_rfl) h
theorem S : a3D prog ⟨113, sig, F⟩ := sound_k (res := [.tmp 6, .tmp 7]) func113 (cok nM)
end Al2
namespace Af8
noncomputable def sig : Sig := ⟨[pL], [oI]⟩
noncomputable def cfg : Cfg := cl (cx []) fun id => match id with | 3 => ([3, 6, 7, 8], []) | _ => ([], [])
noncomputable def fin := finK cfg.c sig [.tmp 2]
noncomputable def F (d : LI × Unit) : OI := anyK (a9W cfg fin (bd f133) (a6v sig.ps d 18))
variable (k : Nat) (i2 : Int) (x3 : LI) (i4 i5 : Int)
noncomputable def l3 : OI := Vm.runT cfg fin k [.inLoop (sub [1, 1, 0, 1, 0, 0] (bd f133)), .inBlock 0, .code (sub [1, 1, 1] (bd f133))] ⟨[dD, dD, dD, vI i2, dD, dD, vL x3, vI i4, vI i5] ++ a8d 9, []⟩
theorem l3_eq : l3 (k + 1) i2 x3 i4 i5 = if (decide (i5 < i4)) = true then if 0 ≤ i5 ∧ i5 < (x3.length : Int) then if ((x3.getD i5.toNat 0 : Int) != i2) = true then some (((x3.getD i5.toNat 0 : Int), ()), ()) else l3 k i2 x3 i4 (IntKind.i64.wrap (i5 + 1)) else none else some ((i2, ()), ()) := by kernel_rfl
variable (vals_1 : LI)
noncomputable def T : OI := l3 k (0 : Int) vals_1 (vals_1.length : Int) (0 : Int)
theorem of {r} (h : Ev (fun k => T k vals_1) r) : F (vals_1, ()) = some r := Ev.run (fun k => by kernel_rfl) h
theorem S : a3D prog ⟨133, sig, F⟩ := sound_k (res := [.tmp 2]) func133 (cok nM)
end Af8
namespace Aj2
noncomputable def sig : Sig := ⟨[pI], [oB]⟩
noncomputable def cfg : Cfg := cf (cx [])
noncomputable def fin := finK cfg.c sig [.tmp 2]
noncomputable def F (d : Int × Unit) : OB := anyK (a9W cfg fin (bd f146) (a6v sig.ps d 6))
variable (x_1 : Int)
noncomputable def T : OB := some ((x_1 != x_1, ()), ())
theorem eq : F (x_1, ()) = T x_1 := eq_any fun k => by kernel_rfl
theorem S : a3D prog ⟨146, sig, F⟩ := sound_k (res := [.tmp 2]) func146 (cok nM)
end Aj2
namespace Aj0
noncomputable def sig : Sig := ⟨[pI, pI], [oI]⟩
noncomputable def cfg : Cfg := cf (cx [⟨146, Aj2.sig, Aj2.F⟩])
noncomputable def fin := finK cfg.c sig [.tmp 4]
noncomputable def F (d : Int × Int × Unit) : OI := anyK (a9W cfg fin (bd f134) (a6v sig.ps d 20))
variable (x_1 y_2 : Int)
noncomputable def T : OI := (Aj2.F (x_1, ())).bind fun r3 => (Aj2.F (y_2, ())).bind fun r4 => if r3.1.1 = true then if r4.1.1 = true then some ((0, ()), ()) else some (((-1 : Int), ()), ()) else if r4.1.1 = true then some ((1, ()), ()) else if (decide (x_1 < y_2)) = true then some (((-1 : Int), ()), ()) else if (decide (x_1 > y_2)) = true then some ((1, ()), ()) else some ((0, ()), ())
theorem eq : F (x_1, y_2, ()) = T x_1 y_2 := eq_any fun k => by kernel_rfl
theorem S : a3D prog ⟨134, sig, F⟩ := sound_k (res := [.tmp 4]) func134 (cok (cM ⟨Aj2.S, nM⟩))
end Aj0
namespace Aj3
noncomputable def sig : Sig := ⟨[pI], [oB]⟩
noncomputable def cfg : Cfg := cf (cx [])
noncomputable def fin := finK cfg.c sig [.tmp 2]
noncomputable def F (d : Int × Unit) : OB := anyK (a9W cfg fin (bd f150) (a6v sig.ps d 6))
variable (x_1 : Int)
noncomputable def T : OB := some ((x_1 != x_1, ()), ())
theorem eq : F (x_1, ()) = T x_1 := eq_any fun k => by kernel_rfl
theorem S : a3D prog ⟨150, sig, F⟩ := sound_k (res := [.tmp 2]) func150 (cok nM)
end Aj3
namespace Aj1
noncomputable def sig : Sig := ⟨[pI, pI], [oI]⟩
noncomputable def cfg : Cfg := cf (cx [⟨150, Aj3.sig, Aj3.F⟩])
noncomputable def fin := finK cfg.c sig [.tmp 4]
noncomputable def F (d : Int × Int × Unit) : OI := anyK (a9W cfg fin (bd f147) (a6v sig.ps d 20))
variable (x_1 y_2 : Int)
noncomputable def T : OI := (Aj3.F (x_1, ())).bind fun r3 => (Aj3.F (y_2, ())).bind fun r4 => if r3.1.1 = true then if r4.1.1 = true then some ((0, ()), ()) else some (((-1 : Int), ()), ()) else if r4.1.1 = true then some ((1, ()), ()) else if (decide (x_1 < y_2)) = true then some (((-1 : Int), ()), ()) else if (decide (x_1 > y_2)) = true then some ((1, ()), ()) else some ((0, ()), ())
theorem eq : F (x_1, y_2, ()) = T x_1 y_2 := eq_any fun k => by kernel_rfl
theorem S : a3D prog ⟨147, sig, F⟩ := sound_k (res := [.tmp 4]) func147 (cok (cM ⟨Aj3.S, nM⟩))
end Aj1
namespace Ah2
noncomputable def sig : Sig := ⟨[pL, pL], [oI]⟩
noncomputable def cfg : Cfg := cl (cx [⟨147, Aj1.sig, Aj1.F⟩]) fun id => match id with | 2 => ([0, 1, 9, 10, 11], []) | _ => ([], [])
noncomputable def fin := finK cfg.c sig [.tmp 4]
noncomputable def F (d : LI × LI × Unit) : OI := anyK (a9W cfg fin (bd f135) (a6v sig.ps d 36))
variable (k : Nat) (x3 x4 x5 : LI) (i6 i7 : Int)
noncomputable def l2 : OI := Vm.runT cfg fin k [.inLoop (sub [1, 0, 1, 0, 0] (bd f135)), .inBlock 0, .code (sub [1, 1] (bd f135))] ⟨[vL x3, vL x4, dD, dD, dD, dD, dD, dD, dD, vL x5, vI i6, vI i7] ++ a8d 24, []⟩
theorem l2_eq : l2 (k + 1) x3 x4 x5 i6 i7 = if (decide (i7 < i6)) = true then if 0 ≤ i7 ∧ i7 < (x5.length : Int) then if (decide (i7 ≥ (x4.length : Int))) = true then some ((1, ()), ()) else if 0 ≤ i7 ∧ i7 < (x4.length : Int) then (Aj1.F ((x5.getD i7.toNat 0 : Int), (x4.getD i7.toNat 0 : Int), ())).bind fun r8 => if (r8.1.1 != 0) = true then some ((r8.1.1, ()), ()) else l2 k x3 x4 x5 i6 (IntKind.i64.wrap (i7 + 1)) else none else none else if (decide ((x3.length : Int) < (x4.length : Int))) = true then some (((-1 : Int), ()), ()) else some ((0, ()), ()) := by kernel_rfl
variable (s1_1 s2_2 : LI)
noncomputable def T : OI := l2 k s1_1 s2_2 s1_1 (s1_1.length : Int) (0 : Int)
theorem of {r} (h : Ev (fun k => T k s1_1 s2_2) r) : F (s1_1, s2_2, ()) = some r := Ev.run (fun k => by kernel_rfl) h
theorem S : a3D prog ⟨135, sig, F⟩ := sound_k (res := [.tmp 4]) func135 (cok (cM ⟨Aj1.S, nM⟩))
end Ah2
namespace Ac7
noncomputable def sig : Sig := ⟨[pL, pL], [oI]⟩
noncomputable def cfg : Cfg := cf (cx [⟨133, Af8.sig, Af8.F⟩, ⟨134, Aj0.sig, Aj0.F⟩, ⟨135, Ah2.sig, Ah2.F⟩])
noncomputable def fin := finK cfg.c sig [.tmp 4]
noncomputable def F (d : LI × LI × Unit) : OI := anyK (a9W cfg fin (bd f114) (a6v sig.ps d 15))
variable (a_1 b_2 : LI)
noncomputable def T : OI := (Aj0.F ((a_1.length : Int), (b_2.length : Int), ())).bind fun r3 => (Ah2.F (a_1, b_2, ())).bind fun r4 => (Af8.F ([r3.1.1, r4.1.1], ())).bind fun r5 => some ((r5.1.1, ()), ())
theorem eq : F (a_1, b_2, ()) = T a_1 b_2 := eq_any fun k => by kernel_rfl
theorem S : a3D prog ⟨114, sig, F⟩ := sound_k (res := [.tmp 4]) func114 (cok (cM ⟨Af8.S, cM ⟨Aj0.S, cM ⟨Ah2.S, nM⟩⟩⟩))
noncomputable def cloG (y : Unit) (d : LI × LI × Unit) : Option (Int × Unit) := (F (b0C [] [(false, tL), (false, tL)] d y)).map (·.1)
noncomputable def clo : Clo := ⟨114, ⟨[(false, tL), (false, tL)], [(.val false, tI, .deep)]⟩, [], cloG⟩
theorem cloS : a2h prog clo := sound_clo (s := ⟨[(false, tL), (false, tL)], [(.val false, tI, .deep)]⟩) (caps := []) rfl S
end Ac7
namespace Ac9
noncomputable def sig : Sig := ⟨[pC, pL], [oI]⟩
noncomputable def cfg : Cfg := cf ⟨a2d tabl, [⟨113, Al2.sig, Al2.F⟩], [Ac7.clo], [], [], []⟩
noncomputable def fin := finK cfg.c sig [.tmp 4]
noncomputable def F (d : LL × LI × Unit) : OI := anyK (a9W cfg fin (bd f84) (a6v sig.ps d 17))
variable (c_1 : LL) (s_2 : LI)
noncomputable def T : OI := (Al2.F (c_1, s_2, Ac7.cloG (()), ())).bind fun r3 => if (!r3.1.2.1) = true then some (((-1 : Int), ()), ()) else some ((r3.1.1, ()), ())
theorem eq : F (c_1, s_2, ()) = T c_1 s_2 := eq_any fun k => by kernel_rfl
theorem S : a3D prog ⟨84, sig, F⟩ := sound_k (res := [.tmp 4]) func84 (⟨nM, mixed_ok, tab_ok tab_good, cM ⟨Al2.S, nM⟩, cM ⟨Ac7.cloS, nM⟩, nM⟩)
end Ac9
namespace Ac1
noncomputable def sig : Sig := ⟨[pC, pI], [oL]⟩
noncomputable def cfg : Cfg := cl (cx [⟨83, Ac0.sig, Ac0.F⟩, ⟨84, Ac9.sig, Ac9.F⟩]) fun id => match id with | 3 => ([2, 5, 13, 14, 15], [8, 20, 52]) | _ => ([], [])
noncomputable def fin := finK cfg.c sig [.tmp 4]
noncomputable def F (d : LL × Int × Unit) : OL := anyK (a9W cfg fin (bd f60) (a6v sig.ps d 27))
variable (k : Nat) (i4 i5 : Int) (x6 : LL) (x7 : LI) (x8 : LL)
noncomputable def l3 : OL := Vm.runT cfg fin k [.inLoop (sub [1, 1, 0, 1, 0, 0] (bd f60)), .inBlock 0, .code (sub [1, 1, 1] (bd f60))] ⟨[dD, dD, .ref 8 (.root 0), dD, dD, .view 20 (.root 0) 1 false, dD, dD, dD, dD, dD, dD, dD, .view 52 (.root 0) 1 false, vI i4, vI i5] ++ a8d 11, [(8, ⟨true, [cQ x6]⟩), (20, ⟨false, [dL x7]⟩), (52, ⟨false, [dQ x8]⟩)]⟩
theorem l3_eq : l3 (k + 1) i4 i5 x6 x7 x8 = if (decide (i5 < i4)) = true then if 0 ≤ i5 ∧ i5 < (x8.length : Int) then (Ac9.F (x6, x8.getD i5.toNat ([] : LI), ())).bind fun r9 => if x7.length + [r9.1.1].length ≤ bigA then l3 k i4 (IntKind.i64.wrap (i5 + 1)) x6 (x7 ++ [r9.1.1]) x8 else none else none else some ((x7, ()), ()) := by kernel_rfl
variable (c_1 : LL) (k_2 : Int)
noncomputable def T : OL := if 0 ≤ k_2 ∧ k_2 < (c_1.length : Int) then (Ac0.F (c_1.getD k_2.toNat ([] : LI), ())).bind fun r3 => l3 k (r3.1.1.length : Int) (0 : Int) c_1 ([]) r3.1.1 else none
theorem of {r} (h : Ev (fun k => T k c_1 k_2) r) : F (c_1, k_2, ()) = some r := Ev.run (fun k => by kernel_rfl) h
theorem S : a3D prog ⟨60, sig, F⟩ := sound_k (res := [.tmp 4]) func60 (cok (cM ⟨Ac0.S, cM ⟨Ac9.S, nM⟩⟩))
end Ac1
namespace Ab8
noncomputable def sig : Sig := ⟨[pC], [(.val false, (.sl TEdge), .deep)]⟩
noncomputable def cfg : Cfg := cl (cx [⟨59, Ag9.sig, Ag9.F⟩, ⟨60, Ac1.sig, Ac1.F⟩]) fun id => match id with | 3 => ([1, 3, 9, 10], [4, 12]) | 6 => ([1, 3, 4, 9, 10, 15, 16, 17], [4, 12, 60]) | _ => ([], [])
noncomputable def fin := finK cfg.c sig [.tmp 2]
noncomputable def F (d : LL × Unit) : Option ((List (Int × Int × Int) × Unit) × (Unit)) := anyK (a9W cfg fin (bd f25) (a6v sig.ps d 32))
variable (k : Nat) (i3 i4 : Int) (x5 : LL) (x6 : List (Int × Int × Int))
noncomputable def l3 : Option ((List (Int × Int × Int) × Unit) × (Unit)) := Vm.runT cfg fin k [.inLoop (sub [1, 1, 0, 1, 0, 0] (bd f25)), .inBlock 0, .code (sub [1, 1, 1] (bd f25))] ⟨[dD, .ref 4 (.root 0), dD, .view 12 (.root 0) 1 false, dD, dD, dD, dD, dD, vI i3, vI i4] ++ a8d 21, [(4, ⟨true, [cQ x5]⟩), (12, ⟨false, [⟨(.sl TEdge), .deep, x6⟩]⟩)]⟩
variable (i8 i9 i10 i11 i12 : Int) (x13 : LL) (x14 : List (Int × Int × Int)) (x15 : LI)
noncomputable def l6 : Option ((List (Int × Int × Int) × Unit) × (Unit)) := Vm.runT cfg fin k [.inLoop (sub [1, 1, 0, 1, 0, 0, 1, 1, 0, 0, 1, 1, 0, 0] (bd f25)), .inBlock 2, .inBlock 1, .code (sub [1, 1, 0, 1, 0, 0, 1, 1, 1] (bd f25)), .inLoop (sub [1, 1, 0, 1, 0, 0] (bd f25)), .inBlock 0, .code (sub [1, 1, 1] (bd f25))] ⟨[dD, .ref 4 (.root 0), dD, .view 12 (.root 0) 1 false, vI i8, dD, dD, dD, dD, vI i9, vI i10, dD, dD, dD, dD, .view 60 (.root 0) 1 false, vI i11, vI i12] ++ a8d 14, [(4, ⟨true, [cQ x13]⟩), (12, ⟨false, [⟨(.sl TEdge), .deep, x14⟩]⟩), (60, ⟨false, [dL x15]⟩)]⟩
theorem l3_eq : l3 (k + 1) i3 i4 x5 x6 = if (decide (i4 < i3)) = true then (Ac1.F (x5, i4, ())).bind fun r7 => l6 k i4 i3 i4 (r7.1.1.length : Int) (0 : Int) x5 x6 r7.1.1 else some ((x6, ()), ()) := by kernel_rfl
theorem l6_eq : l6 (k + 1) i8 i9 i10 i11 i12 x13 x14 x15 = if (decide (i12 < i11)) = true then if 0 ≤ i12 ∧ i12 < (x15.length : Int) then if x14.length + ([(i8, (i12, (x15.getD i12.toNat 0 : Int)))] : List (Int × Int × Int)).length ≤ bigA then l6 k i8 i9 i10 i11 (IntKind.i64.wrap (i12 + 1)) x13 (x14 ++ [(i8, (i12, (x15.getD i12.toNat 0 : Int)))]) x15 else none else none else l3 k i9 (IntKind.i64.wrap (i10 + 1)) x13 x14 := by kernel_rfl
variable (c_1 : LL)
noncomputable def T : Option ((List (Int × Int × Int) × Unit) × (Unit)) := (Ag9.F (c_1, ())).bind fun r2 => l3 k r2.1.1 (0 : Int) c_1 ([])
theorem of {r} (h : Ev (fun k => T k c_1) r) : F (c_1, ()) = some r := Ev.run (fun k => by kernel_rfl) h
theorem S : a3D prog ⟨25, sig, F⟩ := sound_k (res := [.tmp 2]) func25 (cok (cM ⟨Ag9.S, cM ⟨Ac1.S, nM⟩⟩))
end Ab8
namespace Ab1
noncomputable def sig : Sig := ⟨[pL], [oI]⟩
noncomputable def cfg : Cfg := cf (cx [])
noncomputable def fin := finK cfg.c sig [.tmp 2]
noncomputable def F (d : LI × Unit) : OI := anyK (a9W cfg fin (bd f63) (a6v sig.ps d 5))
variable (list_1 : LI)
noncomputable def T : OI := some (((list_1.length : Int), ()), ())
theorem eq : F (list_1, ()) = T list_1 := eq_any fun k => by kernel_rfl
theorem S : a3D prog ⟨63, sig, F⟩ := sound_k (res := [.tmp 2]) func63 (cok nM)
end Ab1
namespace Aa6
noncomputable def sig : Sig := ⟨[pI, pI, pI], [oB]⟩
noncomputable def cfg : Cfg := cf (cx [])
noncomputable def fin := finK cfg.c sig [.tmp 6]
noncomputable def F (d : Int × Int × Int × Unit) : OB := anyK (a9W cfg fin (bd f128) (a6v sig.ps d 15))
variable (n_1 low_2 high_3 : Int)
noncomputable def T : OB := if (decide (n_1 ≥ low_2)) = true then some ((decide (n_1 ≤ high_3), ()), ()) else some ((false, ()), ())
theorem eq : F (n_1, low_2, high_3, ()) = T n_1 low_2 high_3 := eq_any fun k => by kernel_rfl
theorem S : a3D prog ⟨128, sig, F⟩ := sound_k (res := [.tmp 6]) func128 (cok nM)
end Aa6
namespace Ad2
noncomputable def sig : Sig := ⟨[pI], [oB]⟩
noncomputable def cfg : Cfg := cl (cx [⟨128, Aa6.sig, Aa6.F⟩]) fun id => match id with | 4 => ([0, 3], []) | _ => ([], [])
noncomputable def fin := finK cfg.c sig [.tmp 2]
noncomputable def F (d : Int × Unit) : OB := anyK (a9W cfg fin (bd f110) (a6v sig.ps d 18))
variable (k : Nat) (i3 i4 : Int)
noncomputable def l4 : OB := Vm.runT cfg fin k [.inLoop (sub [1, 1, 0, 1, 0, 0] (bd f110)), .inBlock 0, .code (sub [1, 1, 1] (bd f110))] ⟨[vI i3, dD, dD, vI i4] ++ a8d 14, []⟩
theorem l4_eq : l4 (k + 1) i3 i4 = if (decide ((IntKind.i64.wrap (i4 * i4)) ≤ i3)) = true then if i4 = 0 then none else if ((i3.tmod i4) == 0) = true then some ((false, ()), ()) else l4 k i3 (IntKind.i64.wrap (i4 + 1)) else some ((true, ()), ()) := by kernel_rfl
variable (p_1 : Int)
noncomputable def T : OB := (Aa6.F (p_1, (2 : Int), (251 : Int), ())).bind fun r2 => if (!r2.1.1) = true then some ((false, ()), ()) else l4 k p_1 (2 : Int)
theorem of {r} (h : Ev (fun k => T k p_1) r) : F (p_1, ()) = some r := Ev.run (fun k => by kernel_rfl) h
theorem S : a3D prog ⟨110, sig, F⟩ := sound_k (res := [.tmp 2]) func110 (cok (cM ⟨Aa6.S, nM⟩))
end Ad2
namespace Ak3
noncomputable def sig : Sig := ⟨[pI], [oB]⟩
noncomputable def cfg : Cfg := cf (cx [⟨128, Aa6.sig, Aa6.F⟩])
noncomputable def fin := finK cfg.c sig [.tmp 2]
noncomputable def F (d : Int × Unit) : OB := anyK (a9W cfg fin (bd f137) (a6v sig.ps d 5))
variable (n_1 : Int)
noncomputable def T : OB := (Aa6.F (n_1, (0 : Int), (32 : Int), ())).bind fun r2 => some ((r2.1.1, ()), ())
theorem eq : F (n_1, ()) = T n_1 := eq_any fun k => by kernel_rfl
theorem S : a3D prog ⟨137, sig, F⟩ := sound_k (res := [.tmp 2]) func137 (cok (cM ⟨Aa6.S, nM⟩))
end Ak3
namespace Ai2
noncomputable def sig : Sig := ⟨[pL, .fnx ⟨[(false, tI)], [oB]⟩], [oI]⟩
noncomputable def cfg : Cfg := cl (cx []) fun id => match id with | 2 => ([0, 1, 7, 8], []) | _ => ([], [])
noncomputable def fin := finK cfg.c sig [.tmp 4]
noncomputable def F (d : LI × ((Int × Unit) → Option (Bool × Unit)) × Unit) : OI := anyK (a9W cfg fin (bd f144) (a6v sig.ps d 19))
variable (k : Nat) (x3 : LI) (f4 : (Int × Unit) → Option (Bool × Unit)) (i5 i6 : Int)
noncomputable def l2 : OI := Vm.runT cfg fin k [.inLoop (sub [1, 0, 1, 0, 0] (bd f144)), .inBlock 0, .code (sub [1, 1] (bd f144))] ⟨[vL x3, .fnx ⟨[(false, tI)], [(.val false, .bool, .deep)]⟩ f4, dD, dD, dD, dD, dD, vI i5, vI i6] ++ a8d 10, []⟩
theorem l2_eq : l2 (k + 1) x3 f4 i5 i6 = if (decide (i6 < i5)) = true then if 0 ≤ i6 ∧ i6 < (x3.length : Int) then (f4 ((x3.getD i6.toNat 0 : Int), ())).bind fun r7 => if r7.1 = true then some ((i6, ()), ()) else l2 k x3 f4 i5 (IntKind.i64.wrap (i6 + 1)) else none else some (((-1 : Int), ()), ()) := by kernel_rfl
variable (s_1 : LI) (f_2 : (Int × Unit) → Option (Bool × Unit))
noncomputable def T : OI := l2 k s_1 f_2 (s_1.length : Int) (0 : Int)
theorem of {r} (h : Ev (fun k => T k s_1 f_2) r) : F (s_1, f_2, ()) = some r := Ev.run (fun k => by kernel_rfl) h
theorem S : a3D prog ⟨144, sig, F⟩ := sound_k (res := [.tmp 4]) func144 (cok nM)
end Ai2
namespace Ad1
noncomputable def sig : Sig := ⟨[pL, .fnx ⟨[(false, tI)], [oB]⟩], [oB]⟩
noncomputable def cfg : Cfg := cf (cx [⟨144, Ai2.sig, Ai2.F⟩])
noncomputable def fin := finK cfg.c sig [.tmp 4]
noncomputable def F (d : LI × ((Int × Unit) → Option (Bool × Unit)) × Unit) : OB := anyK (a9W cfg fin (bd f129) (a6v sig.ps d 9))
variable (s_1 : LI) (f_2 : (Int × Unit) → Option (Bool × Unit))
noncomputable def T : OB := (Ai2.F (s_1, f_2, ())).bind fun r3 => some ((decide (r3.1.1 ≥ 0), ()), ())
theorem eq : F (s_1, f_2, ()) = T s_1 f_2 := eq_any fun k => by kernel_rfl
theorem S : a3D prog ⟨129, sig, F⟩ := sound_k (res := [.tmp 4]) func129 (cok (cM ⟨Ai2.S, nM⟩))
end Ad1
namespace Am5
noncomputable def sig : Sig := ⟨[pI, pI], [oB]⟩
noncomputable def cfg : Cfg := cf (cx [⟨128, Aa6.sig, Aa6.F⟩])
noncomputable def fin := finK cfg.c sig [.tmp 4]
noncomputable def F (d : Int × Int × Unit) : OB := anyK (a9W cfg fin (bd f149) (a6v sig.ps d 9))
variable (a_1 p_2 : Int)
noncomputable def T : OB := (Aa6.F (a_1, (0 : Int), IntKind.i64.wrap (p_2 - (1 : Int)), ())).bind fun r3 => some ((r3.1.1, ()), ())
theorem eq : F (a_1, p_2, ()) = T a_1 p_2 := eq_any fun k => by kernel_rfl
theorem S : a3D prog ⟨149, sig, F⟩ := sound_k (res := [.tmp 4]) func149 (cok (cM ⟨Aa6.S, nM⟩))
end Am5
namespace Am4
noncomputable def sig : Sig := ⟨[pI, .rptr tI], [oB]⟩
noncomputable def cfg : Cfg := cf (cx [⟨149, Am5.sig, Am5.F⟩])
noncomputable def fin := finK cfg.c sig [.tmp 3]
noncomputable def F (d : Int × Int × Unit) : OB := anyK (a9W cfg fin (bd f148) (a6v sig.ps d 8))
variable (a_1 a_2 : Int)
noncomputable def T : OB := (Am5.F (a_1, a_2, ())).bind fun r3 => some ((!r3.1.1, ()), ())
theorem eq : F (a_1, a_2, ()) = T a_1 a_2 := eq_any fun k => by kernel_rfl
theorem S : a3D prog ⟨148, sig, F⟩ := sound_k (res := [.tmp 3]) func148 (cok (cM ⟨Am5.S, nM⟩))
noncomputable def cloG (y d : Int × Unit) : Option (Bool × Unit) := (F (b0C [.rptr tI] [(false, tI)] d y)).map (·.1)
noncomputable def clo : Clo := ⟨148, ⟨[(false, tI)], [(.val false, .bool, .deep)]⟩, [.rptr tI], cloG⟩
theorem cloS : a2h prog clo := sound_clo (s := ⟨[(false, tI)], [(.val false, .bool, .deep)]⟩) (caps := [.rptr tI]) rfl S
end Am4
namespace Aj9
noncomputable def sig : Sig := ⟨[pL, pI], [oB]⟩
noncomputable def cfg : Cfg := cf ⟨a2d tabl, [⟨129, Ad1.sig, Ad1.F⟩], [Am4.clo], [], [], []⟩
noncomputable def fin := finK cfg.c sig [.tmp 4]
noncomputable def F (d : LI × Int × Unit) : OB := anyK (a9W cfg fin (bd f138) (a6v sig.ps d 9))
variable (list_1 : LI) (p_2 : Int)
noncomputable def T : OB := (Ad1.F (list_1, Am4.cloG (p_2, ()), ())).bind fun r3 => some ((!r3.1.1, ()), ())
theorem eq : F (list_1, p_2, ()) = T list_1 p_2 := eq_any fun k => by kernel_rfl
theorem S : a3D prog ⟨138, sig, F⟩ := sound_k (res := [.tmp 4]) func138 (⟨nM, mixed_ok, tab_ok tab_good, cM ⟨Ad1.S, nM⟩, cM ⟨Am4.cloS, nM⟩, nM⟩)
end Aj9
namespace Aj7
noncomputable def sig : Sig := ⟨[pM], [oB]⟩
noncomputable def cfg : Cfg := cf (cx [⟨63, Ab1.sig, Ab1.F⟩, ⟨110, Ad2.sig, Ad2.F⟩, ⟨137, Ak3.sig, Ak3.F⟩, ⟨138, Aj9.sig, Aj9.F⟩])
noncomputable def fin := finK cfg.c sig [.tmp 2]
noncomputable def F (d : MX × Unit) : OB := anyK (a9W cfg fin (bd f117) (a6v sig.ps d 34))
variable (m_1 m_2 m_3 : Int) (m_4 : LI)
noncomputable def T : OB := (Ad2.F (m_1, ())).bind fun r5 => if r5.1.1 = true then (Ak3.F (m_2, ())).bind fun r6 => if r6.1.1 = true then (Ak3.F (m_3, ())).bind fun r7 => if r7.1.1 = true then (Ab1.F (m_4, ())).bind fun r8 => if (r8.1.1 == (IntKind.i64.wrap (m_2 * m_3))) = true then (Aj9.F (m_4, m_1, ())).bind fun r9 => some ((r9.1.1, ()), ()) else some ((false, ()), ()) else some ((false, ()), ()) else some ((false, ()), ()) else some ((false, ()), ())
theorem eq : F ((m_1, (m_2, (m_3, m_4))), ()) = T m_1 m_2 m_3 m_4 := eq_any fun k => by kernel_rfl
theorem S : a3D prog ⟨117, sig, F⟩ := sound_k (res := [.tmp 2]) func117 (cok (cM ⟨Ab1.S, cM ⟨Ad2.S, cM ⟨Ak3.S, cM ⟨Aj9.S, nM⟩⟩⟩⟩))
end Aj7
namespace Ak2
noncomputable def sig : Sig := ⟨[pM, pI, pI, pI], [oB]⟩
noncomputable def cfg : Cfg := cf (cx [⟨117, Aj7.sig, Aj7.F⟩])
noncomputable def fin := finK cfg.c sig [.tmp 8]
noncomputable def F (d : MX × Int × Int × Int × Unit) : OB := anyK (a9W cfg fin (bd f94) (a6v sig.ps d 29))
variable (m_1 m_2 m_3 : Int) (m_4 : LI) (p_5 from_6 to_7 : Int)
noncomputable def T : OB := (Aj7.F ((m_1, (m_2, (m_3, m_4))), ())).bind fun r8 => if r8.1.1 = true then if (m_1 == p_5) = true then if (m_2 == to_7) = true then some ((m_3 == from_6, ()), ()) else some ((false, ()), ()) else some ((false, ()), ()) else some ((false, ()), ())
theorem eq : F ((m_1, (m_2, (m_3, m_4))), p_5, from_6, to_7, ()) = T m_1 m_2 m_3 m_4 p_5 from_6 to_7 := eq_any fun k => by kernel_rfl
theorem S : a3D prog ⟨94, sig, F⟩ := sound_k (res := [.tmp 8]) func94 (cok (cM ⟨Aj7.S, nM⟩))
end Ak2
namespace Ae9
noncomputable def sig : Sig := ⟨[pL], [oB]⟩
noncomputable def cfg : Cfg := cl (cx []) fun id => match id with | 2 => ([0, 3], []) | _ => ([], [])
noncomputable def fin := finK cfg.c sig [.tmp 2]
noncomputable def F (d : LI × Unit) : OB := anyK (a9W cfg fin (bd f141) (a6v sig.ps d 20))
variable (k : Nat) (x2 : LI) (i3 : Int)
noncomputable def l2 : OB := Vm.runT cfg fin k [.inLoop (sub [1, 0, 1, 0, 0] (bd f141)), .inBlock 0, .code (sub [1, 1] (bd f141))] ⟨[vL x2, dD, dD, vI i3] ++ a8d 16, []⟩
theorem l2_eq : l2 (k + 1) x2 i3 = if (decide (i3 < (x2.length : Int))) = true then if 0 ≤ (IntKind.i64.wrap (i3 - 1)) ∧ (IntKind.i64.wrap (i3 - 1)) < (x2.length : Int) then if 0 ≤ i3 ∧ i3 < (x2.length : Int) then if (decide ((x2.getD (IntKind.i64.wrap (i3 - 1)).toNat 0) ≥ (x2.getD i3.toNat 0 : Int))) = true then some ((false, ()), ()) else l2 k x2 (IntKind.i64.wrap (i3 + 1)) else none else none else some ((true, ()), ()) := by kernel_rfl
variable (list_1 : LI)
noncomputable def T : OB := l2 k list_1 (1 : Int)
theorem of {r} (h : Ev (fun k => T k list_1) r) : F (list_1, ()) = some r := Ev.run (fun k => by kernel_rfl) h
theorem S : a3D prog ⟨141, sig, F⟩ := sound_k (res := [.tmp 2]) func141 (cok nM)
end Ae9
namespace Am6
noncomputable def sig : Sig := ⟨[pI], [oB]⟩
noncomputable def cfg : Cfg := cf (cx [⟨128, Aa6.sig, Aa6.F⟩])
noncomputable def fin := finK cfg.c sig [.tmp 2]
noncomputable def F (d : Int × Unit) : OB := anyK (a9W cfg fin (bd f143) (a6v sig.ps d 5))
variable (v_1 : Int)
noncomputable def T : OB := (Aa6.F (v_1, (0 : Int), (9 : Int), ())).bind fun r2 => some ((r2.1.1, ()), ())
theorem eq : F (v_1, ()) = T v_1 := eq_any fun k => by kernel_rfl
theorem S : a3D prog ⟨143, sig, F⟩ := sound_k (res := [.tmp 2]) func143 (cok (cM ⟨Aa6.S, nM⟩))
end Am6
namespace Al8
noncomputable def sig : Sig := ⟨[pI], [oB]⟩
noncomputable def cfg : Cfg := cf (cx [⟨143, Am6.sig, Am6.F⟩])
noncomputable def fin := finK cfg.c sig [.tmp 2]
noncomputable def F (d : Int × Unit) : OB := anyK (a9W cfg fin (bd f142) (a6v sig.ps d 6))
variable (v_1 : Int)
noncomputable def T : OB := (Am6.F (v_1, ())).bind fun r2 => some ((!r2.1.1, ()), ())
theorem eq : F (v_1, ()) = T v_1 := eq_any fun k => by kernel_rfl
theorem S : a3D prog ⟨142, sig, F⟩ := sound_k (res := [.tmp 2]) func142 (cok (cM ⟨Am6.S, nM⟩))
noncomputable def cloG (y : Unit) (d : Int × Unit) : Option (Bool × Unit) := (F (b0C [] [(false, tI)] d y)).map (·.1)
noncomputable def clo : Clo := ⟨142, ⟨[(false, tI)], [(.val false, .bool, .deep)]⟩, [], cloG⟩
theorem cloS : a2h prog clo := sound_clo (s := ⟨[(false, tI)], [(.val false, .bool, .deep)]⟩) (caps := []) rfl S
end Al8
namespace Aj8
noncomputable def sig : Sig := ⟨[pL], [oB]⟩
noncomputable def cfg : Cfg := cf ⟨a2d tabl, [⟨129, Ad1.sig, Ad1.F⟩, ⟨141, Ae9.sig, Ae9.F⟩], [Al8.clo], [], [], []⟩
noncomputable def fin := finK cfg.c sig [.tmp 2]
noncomputable def F (d : LI × Unit) : OB := anyK (a9W cfg fin (bd f125) (a6v sig.ps d 20))
variable (s_1 : LI)
noncomputable def T : OB := if (decide ((s_1.length : Int) ≥ 1)) = true then if (decide ((s_1.length : Int) ≤ 4)) = true then (Ae9.F (s_1, ())).bind fun r2 => if r2.1.1 = true then (Ad1.F (s_1, Al8.cloG (()), ())).bind fun r3 => some ((!r3.1.1, ()), ()) else some ((false, ()), ()) else some ((false, ()), ()) else some ((false, ()), ())
theorem eq : F (s_1, ()) = T s_1 := eq_any fun k => by kernel_rfl
theorem S : a3D prog ⟨125, sig, F⟩ := sound_k (res := [.tmp 2]) func125 (⟨nM, mixed_ok, tab_ok tab_good, cM ⟨Ad1.S, cM ⟨Ae9.S, nM⟩⟩, cM ⟨Al8.cloS, nM⟩, nM⟩)
end Aj8
namespace Ad8
noncomputable def sig : Sig := ⟨[pQ, .fnx ⟨[(false, tL)], [oB]⟩], [oI]⟩
noncomputable def cfg : Cfg := cl (cx []) fun id => match id with | 2 => ([0, 1, 7, 8], []) | _ => ([], [])
noncomputable def fin := finK cfg.c sig [.tmp 4]
noncomputable def F (d : LL × ((LI × Unit) → Option (Bool × Unit)) × Unit) : OI := anyK (a9W cfg fin (bd f85) (a6v sig.ps d 19))
variable (k : Nat) (x3 : LL) (f4 : (LI × Unit) → Option (Bool × Unit)) (i5 i6 : Int)
noncomputable def l2 : OI := Vm.runT cfg fin k [.inLoop (sub [1, 0, 1, 0, 0] (bd f85)), .inBlock 0, .code (sub [1, 1] (bd f85))] ⟨[vQ x3, .fnx ⟨[(false, tL)], [(.val false, .bool, .deep)]⟩ f4, dD, dD, dD, dD, dD, vI i5, vI i6] ++ a8d 10, []⟩
theorem l2_eq : l2 (k + 1) x3 f4 i5 i6 = if (decide (i6 < i5)) = true then if 0 ≤ i6 ∧ i6 < (x3.length : Int) then (f4 (x3.getD i6.toNat ([] : LI), ())).bind fun r7 => if r7.1 = true then some ((i6, ()), ()) else l2 k x3 f4 i5 (IntKind.i64.wrap (i6 + 1)) else none else some (((-1 : Int), ()), ()) := by kernel_rfl
variable (s_1 : LL) (f_2 : (LI × Unit) → Option (Bool × Unit))
noncomputable def T : OI := l2 k s_1 f_2 (s_1.length : Int) (0 : Int)
theorem of {r} (h : Ev (fun k => T k s_1 f_2) r) : F (s_1, f_2, ()) = some r := Ev.run (fun k => by kernel_rfl) h
theorem S : a3D prog ⟨85, sig, F⟩ := sound_k (res := [.tmp 4]) func85 (cok nM)
end Ad8
namespace Ai9
noncomputable def sig : Sig := ⟨[pQ, .fnx ⟨[(false, tL)], [oB]⟩], [oB]⟩
noncomputable def cfg : Cfg := cf (cx [⟨85, Ad8.sig, Ad8.F⟩])
noncomputable def fin := finK cfg.c sig [.tmp 4]
noncomputable def F (d : LL × ((LI × Unit) → Option (Bool × Unit)) × Unit) : OB := anyK (a9W cfg fin (bd f126) (a6v sig.ps d 9))
variable (s_1 : LL) (f_2 : (LI × Unit) → Option (Bool × Unit))
noncomputable def T : OB := (Ad8.F (s_1, f_2, ())).bind fun r3 => some ((decide (r3.1.1 ≥ 0), ()), ())
theorem eq : F (s_1, f_2, ()) = T s_1 f_2 := eq_any fun k => by kernel_rfl
theorem S : a3D prog ⟨126, sig, F⟩ := sound_k (res := [.tmp 4]) func126 (cok (cM ⟨Ad8.S, nM⟩))
end Ai9
namespace Aj6
noncomputable def sig : Sig := ⟨[pL, qC, .rptr tI], [oB]⟩
noncomputable def cfg : Cfg := cf (cx [⟨84, Ac9.sig, Ac9.F⟩])
noncomputable def fin := finK cfg.c sig [.tmp 4]
noncomputable def F (d : LI × LL × Int × Unit) : OB := anyK (a9W cfg fin (bd f127) (a6v sig.ps d 13))
variable (f_1 : LI) (a_2 : LL) (a_3 : Int)
noncomputable def T : OB := if 0 ≤ (0 : Int) ∧ (0 : Int) ≤ a_3 ∧ a_3 ≤ (a_2.length : Int) then (Ac9.F (cutL a_2 (0 : Int) a_3, f_1, ())).bind fun r4 => some ((decide (r4.1.1 < 0), ()), ()) else none
theorem eq : F (f_1, a_2, a_3, ()) = T f_1 a_2 a_3 := eq_any fun k => by kernel_rfl
theorem S : a3D prog ⟨127, sig, F⟩ := sound_k (res := [.tmp 4]) func127 (cok (cM ⟨Ac9.S, nM⟩))
noncomputable def cloG (y : LL × Int × Unit) (d : LI × Unit) : Option (Bool × Unit) := (F (b0C [.rptr tQ, .rptr tI] [(false, tL)] d y)).map (·.1)
noncomputable def clo : Clo := ⟨127, ⟨[(false, tL)], [(.val false, .bool, .deep)]⟩, [.rptr tQ, .rptr tI], cloG⟩
theorem cloS : a2h prog clo := sound_clo (s := ⟨[(false, tL)], [(.val false, .bool, .deep)]⟩) (caps := [.rptr tQ, .rptr tI]) rfl S
end Aj6
namespace Ae6
noncomputable def sig : Sig := ⟨[pC], [oB]⟩
noncomputable def cfg : Cfg := cl (⟨a2d tabl, [⟨83, Ac0.sig, Ac0.F⟩, ⟨114, Ac7.sig, Ac7.F⟩, ⟨125, Aj8.sig, Aj8.F⟩, ⟨126, Ai9.sig, Ai9.F⟩], [Aj6.clo], [], [], []⟩) fun id => match id with | 2 => ([1, 6, 7, 8], [4]) | _ => ([], [])
noncomputable def fin := finK cfg.c sig [.tmp 2]
noncomputable def F (d : LL × Unit) : OB := anyK (a9W cfg fin (bd f109) (a6v sig.ps d 40))
variable (k : Nat) (x2 : LL) (i3 i4 : Int) (x5 : LL)
noncomputable def l2 : OB := Vm.runT cfg fin k [.inLoop (sub [1, 0, 1, 0, 0] (bd f109)), .inBlock 0, .code (sub [1, 1] (bd f109))] ⟨[dD, .ref 4 (.root 0), dD, dD, dD, dD, vQ x2, vI i3, vI i4] ++ a8d 31, [(4, ⟨true, [cQ x5]⟩)]⟩
theorem l2_eq : l2 (k + 1) x2 i3 i4 x5 = if (decide (i4 < i3)) = true then if 0 ≤ i4 ∧ i4 < (x2.length : Int) then (Aj8.F (x2.getD i4.toNat ([] : LI), ())).bind fun r6 => if (!r6.1.1) = true then some ((false, ()), ()) else if (decide (i4 > 0)) = true then if 0 ≤ (IntKind.i64.wrap (i4 - 1)) ∧ (IntKind.i64.wrap (i4 - 1)) < (x5.length : Int) then (Ac7.F (x5.getD (IntKind.i64.wrap (i4 - 1)).toNat ([] : LI), x2.getD i4.toNat ([] : LI), ())).bind fun r7 => if (decide (r7.1.1 ≥ 0)) = true then some ((false, ()), ()) else (Ac0.F (x2.getD i4.toNat ([] : LI), ())).bind fun r8 => (Ai9.F (r8.1.1, Aj6.cloG (x5, i4, ()), ())).bind fun r9 => if r9.1.1 = true then some ((false, ()), ()) else l2 k x2 i3 (IntKind.i64.wrap (i4 + 1)) x5 else none else (Ac0.F (x2.getD i4.toNat ([] : LI), ())).bind fun r10 => (Ai9.F (r10.1.1, Aj6.cloG (x5, i4, ()), ())).bind fun r11 => if r11.1.1 = true then some ((false, ()), ()) else l2 k x2 i3 (IntKind.i64.wrap (i4 + 1)) x5 else none else some ((decide ((x5.length : Int) ≤ 48), ()), ()) := by kernel_rfl
variable (c_1 : LL)
noncomputable def T : OB := l2 k c_1 (c_1.length : Int) (0 : Int) c_1
theorem of {r} (h : Ev (fun k => T k c_1) r) : F (c_1, ()) = some r := Ev.run (fun k => by kernel_rfl) h
theorem S : a3D prog ⟨109, sig, F⟩ := sound_k (res := [.tmp 2]) func109 (⟨nM, mixed_ok, tab_ok tab_good, cM ⟨Ac0.S, cM ⟨Ac7.S, cM ⟨Aj8.S, cM ⟨Ai9.S, nM⟩⟩⟩⟩, cM ⟨Aj6.cloS, nM⟩, nM⟩)
end Ae6
namespace Ah9
noncomputable def sig : Sig := ⟨[pC, pI], [oL]⟩
noncomputable def cfg : Cfg := cl (cx [⟨63, Ab1.sig, Ab1.F⟩]) fun id => match id with | 3 => ([1, 5, 9, 10, 11], [20]) | _ => ([], [])
noncomputable def fin := finK cfg.c sig [.tmp 4]
noncomputable def F (d : LL × Int × Unit) : OL := anyK (a9W cfg fin (bd f145) (a6v sig.ps d 27))
variable (k : Nat) (i3 : Int) (x4 : LL) (i5 i6 : Int) (x7 : LI)
noncomputable def l3 : OL := Vm.runT cfg fin k [.inLoop (sub [1, 1, 0, 1, 0, 0] (bd f145)), .inBlock 0, .code (sub [1, 1, 1] (bd f145))] ⟨[dD, vI i3, dD, dD, dD, .view 20 (.root 0) 1 false, dD, dD, dD, vQ x4, vI i5, vI i6] ++ a8d 15, [(20, ⟨false, [dL x7]⟩)]⟩
theorem l3_eq : l3 (k + 1) i3 x4 i5 i6 x7 = if (decide (i6 < i5)) = true then if 0 ≤ i6 ∧ i6 < (x4.length : Int) then (Ab1.F (x4.getD i6.toNat ([] : LI), ())).bind fun r8 => if (r8.1.1 == (IntKind.i64.wrap (i3 + 1))) = true then if x7.length + [i6].length ≤ bigA then l3 k i3 x4 i5 (IntKind.i64.wrap (i6 + 1)) (x7 ++ [i6]) else none else l3 k i3 x4 i5 (IntKind.i64.wrap (i6 + 1)) x7 else none else some ((x7, ()), ()) := by kernel_rfl
variable (c_1 : LL) (dimension_2 : Int)
noncomputable def T : OL := l3 k dimension_2 c_1 (c_1.length : Int) (0 : Int) ([])
theorem of {r} (h : Ev (fun k => T k c_1 dimension_2) r) : F (c_1, dimension_2, ()) = some r := Ev.run (fun k => by kernel_rfl) h
theorem S : a3D prog ⟨145, sig, F⟩ := sound_k (res := [.tmp 4]) func145 (cok (cM ⟨Ab1.S, nM⟩))
end Ah9
namespace Ag0
noncomputable def sig : Sig := ⟨[pS, pI], [oI]⟩
noncomputable def cfg : Cfg := cl (cx [⟨145, Ah9.sig, Ah9.F⟩]) fun id => match id with | 3 => ([2, 5, 11, 12, 13], [8, 44]) | _ => ([], [])
noncomputable def fin := finK cfg.c sig [.tmp 4]
noncomputable def F (d : SF × Int × Unit) : OI := anyK (a9W cfg fin (bd f131) (a6v sig.ps d 26))
variable (k : Nat) (i7 i8 i9 : Int) (x10 : LL) (i11 : Int) (x12 : LI) (x13 : LM) (x14 : LI)
noncomputable def l3 : OI := Vm.runT cfg fin k [.inLoop (sub [1, 1, 0, 1, 0, 0] (bd f131)), .inBlock 0, .code (sub [1, 1, 1] (bd f131))] ⟨[dD, dD, .ref 8 (.root 0), dD, dD, vI i7, dD, dD, dD, dD, dD, .view 44 (.root 0) 1 false, vI i8, vI i9] ++ a8d 12, [(8, ⟨true, [cQ x10, cI i11, cL x12, ⟨(.sl TMatrix), .sh, x13⟩]⟩), (44, ⟨false, [dL x14]⟩)]⟩
theorem l3_eq : l3 (k + 1) i7 i8 i9 x10 i11 x12 x13 x14 = if (decide (i9 < i8)) = true then if 0 ≤ i9 ∧ i9 < (x14.length : Int) then if 0 ≤ (x14.getD i9.toNat 0 : Int) ∧ (x14.getD i9.toNat 0 : Int) < (x12.length : Int) then l3 k (IntKind.i64.wrap (i7 + (x12.getD (x14.getD i9.toNat 0 : Int).toNat 0))) i8 (IntKind.i64.wrap (i9 + 1)) x10 i11 x12 x13 x14 else none else none else some ((i7, ()), ()) := by kernel_rfl
variable (s_1 : LL) (s_2 : Int) (s_3 : LI) (s_4 : LM) (k_5 : Int)
noncomputable def T : OI := (Ah9.F (s_1, k_5, ())).bind fun r6 => l3 k (0 : Int) (r6.1.1.length : Int) (0 : Int) s_1 s_2 s_3 s_4 r6.1.1
theorem of {r} (h : Ev (fun k => T k s_1 s_2 s_3 s_4 k_5) r) : F ((s_1, (s_2, (s_3, s_4))), k_5, ()) = some r := Ev.run (fun k => by kernel_rfl) h
theorem S : a3D prog ⟨131, sig, F⟩ := sound_k (res := [.tmp 4]) func131 (cok (cM ⟨Ah9.S, nM⟩))
end Ag0
namespace Al9
noncomputable def sig : Sig := ⟨[pI], [oB]⟩
noncomputable def cfg : Cfg := cf (cx [⟨128, Aa6.sig, Aa6.F⟩])
noncomputable def fin := finK cfg.c sig [.tmp 2]
noncomputable def F (d : Int × Unit) : OB := anyK (a9W cfg fin (bd f130) (a6v sig.ps d 6))
variable (n_1 : Int)
noncomputable def T : OB := (Aa6.F (n_1, (0 : Int), (3 : Int), ())).bind fun r2 => some ((!r2.1.1, ()), ())
theorem eq : F (n_1, ()) = T n_1 := eq_any fun k => by kernel_rfl
theorem S : a3D prog ⟨130, sig, F⟩ := sound_k (res := [.tmp 2]) func130 (cok (cM ⟨Aa6.S, nM⟩))
noncomputable def cloG (y : Unit) (d : Int × Unit) : Option (Bool × Unit) := (F (b0C [] [(false, tI)] d y)).map (·.1)
noncomputable def clo : Clo := ⟨130, ⟨[(false, tI)], [(.val false, .bool, .deep)]⟩, [], cloG⟩
theorem cloS : a2h prog clo := sound_clo (s := ⟨[(false, tI)], [(.val false, .bool, .deep)]⟩) (caps := []) rfl S
end Al9
namespace Ad6
noncomputable def sig : Sig := ⟨[pC, pL], [oB]⟩
noncomputable def cfg : Cfg := cl (⟨a2d tabl, [⟨129, Ad1.sig, Ad1.F⟩, ⟨131, Ag0.sig, Ag0.F⟩], [Al9.clo], [], [], []⟩) fun id => match id with | 4 => ([1, 2, 16], [8]) | _ => ([], [])
noncomputable def fin := finK cfg.c sig [.tmp 4]
noncomputable def F (d : LL × LI × Unit) : OB := anyK (a9W cfg fin (bd f111) (a6v sig.ps d 26))
variable (k : Nat) (x4 : LI) (i5 : Int) (x6 : LL)
noncomputable def l4 : OB := Vm.runT cfg fin k [.inLoop (sub [1, 1, 0, 1, 0, 0] (bd f111)), .inBlock 0, .code (sub [1, 1, 1] (bd f111))] ⟨[dD, vL x4, .ref 8 (.root 0), dD, dD, dD, dD, dD, dD, dD, dD, dD, dD, dD, dD, dD, vI i5] ++ a8d 9, [(8, ⟨true, [cQ x6]⟩)]⟩
theorem l4_eq : l4 (k + 1) x4 i5 x6 = if (decide (i5 < 4)) = true then (Ag0.F ((x6, (0, (x4, []))), i5, ())).bind fun r7 => if (decide (r7.1.1 > 32)) = true then some ((false, ()), ()) else l4 k x4 (IntKind.i64.wrap (i5 + 1)) x6 else some ((true, ()), ()) := by kernel_rfl
variable (c_1 : LL) (stalks_2 : LI)
noncomputable def T : OB := if ((stalks_2.length : Int) != (c_1.length : Int)) = true then some ((false, ()), ()) else (Ad1.F (stalks_2, Al9.cloG (()), ())).bind fun r3 => if r3.1.1 = true then some ((false, ()), ()) else l4 k stalks_2 (0 : Int) c_1
theorem of {r} (h : Ev (fun k => T k c_1 stalks_2) r) : F (c_1, stalks_2, ()) = some r := Ev.run (fun k => by kernel_rfl) h
theorem S : a3D prog ⟨111, sig, F⟩ := sound_k (res := [.tmp 4]) func111 (⟨nM, mixed_ok, tab_ok tab_good, cM ⟨Ad1.S, cM ⟨Ag0.S, nM⟩⟩, cM ⟨Al9.cloS, nM⟩, nM⟩)
end Ad6
namespace Ac6
noncomputable def sig : Sig := ⟨[pS], [oB]⟩
noncomputable def cfg : Cfg := cl (cx [⟨25, Ab8.sig, Ab8.F⟩, ⟨94, Ak2.sig, Ak2.F⟩, ⟨109, Ae6.sig, Ae6.F⟩, ⟨110, Ad2.sig, Ad2.F⟩, ⟨111, Ad6.sig, Ad6.F⟩]) fun id => match id with | 5 => ([1, 3, 27, 28, 29], [4, 12]) | _ => ([], [])
noncomputable def fin := finK cfg.c sig [.tmp 2]
noncomputable def F (d : SF × Unit) : OB := anyK (a9W cfg fin (bd f80) (a6v sig.ps d 69))
variable (k : Nat) (i9 i10 : Int) (x11 : LL) (i12 : Int) (x13 : LI) (x14 : LM) (x15 : List (Int × Int × Int))
noncomputable def l5 : OB := Vm.runT cfg fin k [.inLoop (sub [1, 1, 1, 0, 1, 0, 0] (bd f80)), .inBlock 0, .code (sub [1, 1, 1, 1] (bd f80))] ⟨[dD, .ref 4 (.root 0), dD, .view 12 (.root 0) 1 false, dD, dD, dD, dD, dD, dD, dD, dD, dD, dD, dD, dD, dD, dD, dD, dD, dD, dD, dD, dD, dD, dD, dD, .view 12 (.root 0) 1 false, vI i9, vI i10] ++ a8d 39, [(4, ⟨true, [cQ x11, cI i12, cL x13, ⟨(.sl TMatrix), .sh, x14⟩]⟩), (12, ⟨false, [⟨(.sl TEdge), .deep, x15⟩]⟩)]⟩
theorem l5_eq : l5 (k + 1) i9 i10 x11 i12 x13 x14 x15 = if (decide (i10 < i9)) = true then if 0 ≤ i10 ∧ i10 < (x15.length : Int) then if (decide (i10 ≥ (x14.length : Int))) = true then some ((false, ()), ()) else if 0 ≤ i10 ∧ i10 < (x14.length : Int) then if 0 ≤ (((x15.getD i10.toNat (0, 0, 0)).2).2 : Int) ∧ (((x15.getD i10.toNat (0, 0, 0)).2).2 : Int) < (x13.length : Int) then if 0 ≤ ((x15.getD i10.toNat (0, 0, 0)).1 : Int) ∧ ((x15.getD i10.toNat (0, 0, 0)).1 : Int) < (x13.length : Int) then (Ak2.F (x14.getD i10.toNat (0, 0, 0, ([] : LI)), i12, x13.getD (((x15.getD i10.toNat (0, 0, 0)).2).2 : Int).toNat 0, x13.getD ((x15.getD i10.toNat (0, 0, 0)).1 : Int).toNat 0, ())).bind fun r16 => if (!r16.1.1) = true then some ((false, ()), ()) else l5 k i9 (IntKind.i64.wrap (i10 + 1)) x11 i12 x13 x14 x15 else none else none else none else none else some (((x15.length : Int) == (x14.length : Int), ()), ()) := by kernel_rfl
variable (toArray_1 : LL) (toArray_2 : Int) (toArray_3 : LI) (toArray_4 : LM)
noncomputable def T : OB := (Ae6.F (toArray_1, ())).bind fun r5 => if (!r5.1.1) = true then some ((false, ()), ()) else (Ad2.F (toArray_2, ())).bind fun r6 => if (!r6.1.1) = true then some ((false, ()), ()) else (Ad6.F (toArray_1, toArray_3, ())).bind fun r7 => if (!r7.1.1) = true then some ((false, ()), ()) else (Ab8.F (toArray_1, ())).bind fun r8 => l5 k (r8.1.1.length : Int) (0 : Int) toArray_1 toArray_2 toArray_3 toArray_4 r8.1.1
theorem of {r} (h : Ev (fun k => T k toArray_1 toArray_2 toArray_3 toArray_4) r) : F ((toArray_1, (toArray_2, (toArray_3, toArray_4))), ()) = some r := Ev.run (fun k => by kernel_rfl) h
theorem S : a3D prog ⟨80, sig, F⟩ := sound_k (res := [.tmp 2]) func80 (cok (cM ⟨Ab8.S, cM ⟨Ak2.S, cM ⟨Ae6.S, cM ⟨Ad2.S, cM ⟨Ad6.S, nM⟩⟩⟩⟩⟩))
end Ac6
namespace Ab6
noncomputable def sig : Sig := ⟨[pL, pL], [oB]⟩
noncomputable def cfg : Cfg := cl (cx []) fun id => match id with | 4 => ([0, 1, 12, 13], []) | _ => ([], [])
noncomputable def fin := finK cfg.c sig [.tmp 4]
noncomputable def F (d : LI × LI × Unit) : OB := anyK (a9W cfg fin (bd f100) (a6v sig.ps d 26))
variable (k : Nat) (x3 x4 : LI) (i5 i6 : Int)
noncomputable def l4 : OB := Vm.runT cfg fin k [.inLoop (sub [1, 1, 0, 1, 0, 0] (bd f100)), .inBlock 0, .code (sub [1, 1, 1] (bd f100))] ⟨[vL x3, vL x4, dD, dD, dD, dD, dD, dD, dD, dD, dD, dD, vI i5, vI i6] ++ a8d 12, []⟩
theorem l4_eq : l4 (k + 1) x3 x4 i5 i6 = if (decide (i6 < i5)) = true then if 0 ≤ i6 ∧ i6 < (x3.length : Int) then if 0 ≤ i6 ∧ i6 < (x4.length : Int) then if ((x3.getD i6.toNat 0 : Int) != (x4.getD i6.toNat 0 : Int)) = true then some ((false, ()), ()) else l4 k x3 x4 i5 (IntKind.i64.wrap (i6 + 1)) else none else none else some ((true, ()), ()) := by kernel_rfl
variable (s1_1 s2_2 : LI)
noncomputable def T : OB := if ((s1_1.length : Int) != (s2_2.length : Int)) = true then some ((false, ()), ()) else l4 k s1_1 s2_2 (s1_1.length : Int) (0 : Int)
theorem of {r} (h : Ev (fun k => T k s1_1 s2_2) r) : F (s1_1, s2_2, ()) = some r := Ev.run (fun k => by kernel_rfl) h
theorem S : a3D prog ⟨100, sig, F⟩ := sound_k (res := [.tmp 4]) func100 (cok nM)
noncomputable def cloG (y : Unit) (d : LI × LI × Unit) : Option (Bool × Unit) := (F (b0C [] [(false, tL), (false, tL)] d y)).map (·.1)
noncomputable def clo : Clo := ⟨100, ⟨[(false, tL), (false, tL)], [(.val false, .bool, .deep)]⟩, [], cloG⟩
theorem cloS : a2h prog clo := sound_clo (s := ⟨[(false, tL), (false, tL)], [(.val false, .bool, .deep)]⟩) (caps := []) rfl S
end Ab6
namespace Aj5
noncomputable def sig : Sig := ⟨[pM, pM], [oB]⟩
noncomputable def cfg : Cfg := cf (cx [⟨100, Ab6.sig, Ab6.F⟩])
noncomputable def fin := finK cfg.c sig [.tmp 4]
noncomputable def F (d : MX × MX × Unit) : OB := anyK (a9W cfg fin (bd f95) (a6v sig.ps d 31))
variable (a_1 a_2 a_3 : Int) (a_4 : LI) (b_5 b_6 b_7 : Int) (b_8 : LI)
noncomputable def T : OB := if (a_1 == b_5) = true then if (a_2 == b_6) = true then if (a_3 == b_7) = true then (Ab6.F (a_4, b_8, ())).bind fun r9 => some ((r9.1.1, ()), ()) else some ((false, ()), ()) else some ((false, ()), ()) else some ((false, ()), ())
theorem eq : F ((a_1, (a_2, (a_3, a_4))), (b_5, (b_6, (b_7, b_8))), ()) = T a_1 a_2 a_3 a_4 b_5 b_6 b_7 b_8 := eq_any fun k => by kernel_rfl
theorem S : a3D prog ⟨95, sig, F⟩ := sound_k (res := [.tmp 4]) func95 (cok (cM ⟨Ab6.S, nM⟩))
end Aj5
namespace Al3
noncomputable def sig : Sig := ⟨[pL], [oL]⟩
noncomputable def cfg : Cfg := cf (cx [])
noncomputable def fin := finK cfg.c sig [.tmp 2]
noncomputable def F (d : LI × Unit) : OL := anyK (a9W cfg fin (bd f89) (a6v sig.ps d 8))
variable (s_1 : LI)
noncomputable def T : OL := if 0 < s_1.length then if ([] : LI).length + s_1.length ≤ bigA then some ((([] : LI) ++ s_1, ()), ()) else none else both ( some (([], ()), ()) ) ( if ([] : LI).length + s_1.length ≤ bigA then some ((([] : LI) ++ s_1, ()), ()) else none )
theorem eq : F (s_1, ()) = T s_1 := eq_any fun k => by kernel_rfl
theorem S : a3D prog ⟨89, sig, F⟩ := sound_k (res := [.tmp 2]) func89 (cok nM)
end Al3
namespace Ae5
noncomputable def sig : Sig := ⟨[pM, pI], [(.val false, tL, .sh)]⟩
noncomputable def cfg : Cfg := cf (cx [])
noncomputable def fin := finK cfg.c sig [.tmp 4]
noncomputable def F (d : MX × Int × Unit) : OL := anyK (a9W cfg fin (bd f90) (a6v sig.ps d 17))
noncomputable def T (m_1 m_2 m_3 : Int) (m_4 : LI) (i_5 : Int) : OL := if 0 ≤ (IntKind.i64.wrap (i_5 * m_3)) ∧ (IntKind.i64.wrap (i_5 * m_3)) ≤ (IntKind.i64.wrap ((IntKind.i64.wrap (i_5 + 1)) * m_3)) ∧ (IntKind.i64.wrap ((IntKind.i64.wrap (i_5 + 1)) * m_3)) ≤ (m_4.length : Int) then some ((cutL m_4 (IntKind.i64.wrap (i_5 * m_3)) (IntKind.i64.wrap ((IntKind.i64.wrap (i_5 + 1)) * m_3)), ()), ()) else none
theorem eq (m_1 m_2 m_3 : Int) (m_4 : LI) (i_5 : Int) : F ((m_1, (m_2, (m_3, m_4))), i_5, ()) = T m_1 m_2 m_3 m_4 i_5 := eq_any fun k => by kernel_rfl
theorem S : a3D prog ⟨90, sig, F⟩ := sound_k (res := [.tmp 4]) func90 (cok nM)
end Ae5
namespace Ad7
noncomputable def sig : Sig := ⟨[pM], [oQ]⟩
noncomputable def cfg : Cfg := cl (cx [⟨89, Al3.sig, Al3.F⟩, ⟨90, Ae5.sig, Ae5.F⟩]) fun id => match id with | 3 => ([1, 3, 6, 7], [4, 12]) | _ => ([], [])
noncomputable def fin := finK cfg.c sig [.tmp 2]
noncomputable def F (d : MX × Unit) : OQ := anyK (a9W cfg fin (bd f62) (a6v sig.ps d 19))
variable (k : Nat) (i5 i6 i7 i8 i9 : Int) (x10 : LI) (x11 : LL)
noncomputable def l3 : OQ := Vm.runT cfg fin k [.inLoop (sub [1, 1, 0, 1, 0, 0] (bd f62)), .inBlock 0, .code (sub [1, 1, 1] (bd f62))] ⟨[dD, .ref 4 (.root 0), dD, .view 12 (.root 0) 1 false, dD, dD, vI i5, vI i6] ++ a8d 11, [(4, ⟨true, [cI i7, cI i8, cI i9, cL x10]⟩), (12, ⟨false, [dQ x11]⟩)]⟩
theorem l3_eq : l3 (k + 1) i5 i6 i7 i8 i9 x10 x11 = if (decide (i6 < i5)) = true then (Ae5.F ((i7, (i8, (i9, x10))), i6, ())).bind fun r12 => (Al3.F (r12.1.1, ())).bind fun r13 => if x11.length + [r13.1.1].length ≤ bigA then l3 k i5 (IntKind.i64.wrap (i6 + 1)) i7 i8 i9 x10 (x11 ++ [r13.1.1]) else none else some ((x11, ()), ()) := by kernel_rfl
variable (m_1 m_2 m_3 : Int) (m_4 : LI)
noncomputable def T : OQ := l3 k m_2 (0 : Int) m_1 m_2 m_3 m_4 ([])
theorem of {r} (h : Ev (fun k => T k m_1 m_2 m_3 m_4) r) : F ((m_1, (m_2, (m_3, m_4))), ()) = some r := Ev.run (fun k => by kernel_rfl) h
theorem S : a3D prog ⟨62, sig, F⟩ := sound_k (res := [.tmp 2]) func62 (cok (cM ⟨Al3.S, cM ⟨Ae5.S, nM⟩⟩))
end Ad7
namespace Ac8
noncomputable def sig : Sig := ⟨[pI, pI, pI, .fnx ⟨[(false, tI), (false, tI)], [oI]⟩], [oM]⟩
noncomputable def cfg : Cfg := cl (cx []) fun id => match id with | 3 => ([2, 3, 8, 9, 16, 17], [32, 36]) | 6 => ([2, 3, 8, 9, 10, 16, 17, 20, 21], [32, 36]) | _ => ([], [])
noncomputable def fin := finK cfg.c sig [.cell 8 53]
noncomputable def F (d : Int × Int × Int × ((Int × Int × Unit) → Option (Int × Unit)) × Unit) : OM := anyK (a9W cfg fin (bd f97) (a6v sig.ps d 36))
variable (k : Nat) (i5 : Int) (f6 : (Int × Int × Unit) → Option (Int × Unit)) (i7 i8 i9 i10 i11 : Int) (x12 : LI) (i13 i14 i15 : Int) (x16 : LI)
noncomputable def l3 : OM := Vm.runT cfg fin k [.inLoop (sub [1, 1, 0, 1, 0, 0] (bd f97)), .inBlock 0, .code (sub [1, 1, 1] (bd f97))] ⟨[dD, dD, vI i5, .fnx ⟨[(false, tI), (false, tI)], [(.val false, tI, .deep)]⟩ f6, dD, dD, dD, dD, .ref 32 (.root 0), .ref 36 (.root 0), dD, dD, dD, dD, dD, dD, vI i7, vI i8] ++ a8d 18, [(32, ⟨true, [cI i9, cI i10, cI i11, dL x12]⟩), (36, ⟨true, [cI i13, cI i14, cI i15, dL x16]⟩)]⟩
variable (i17 : Int) (f18 : (Int × Int × Unit) → Option (Int × Unit)) (i19 i20 i21 i22 i23 i24 i25 i26 : Int) (x27 : LI) (i28 i29 i30 : Int) (x31 : LI)
noncomputable def l6 : OM := Vm.runT cfg fin k [.inLoop (sub [1, 1, 0, 1, 0, 0, 1, 1, 0, 0, 1, 1, 0, 0] (bd f97)), .inBlock 2, .inBlock 1, .code (sub [1, 1, 0, 1, 0, 0, 1, 1, 1] (bd f97)), .inLoop (sub [1, 1, 0, 1, 0, 0] (bd f97)), .inBlock 0, .code (sub [1, 1, 1] (bd f97))] ⟨[dD, dD, vI i17, .fnx ⟨[(false, tI), (false, tI)], [(.val false, tI, .deep)]⟩ f18, dD, dD, dD, dD, .ref 32 (.root 0), .ref 36 (.root 0), vI i19, dD, dD, dD, dD, dD, vI i20, vI i21, dD, dD, vI i22, vI i23] ++ a8d 14, [(32, ⟨true, [cI i24, cI i25, cI i26, dL x27]⟩), (36, ⟨true, [cI i28, cI i29, cI i30, dL x31]⟩)]⟩
theorem l3_eq : l3 (k + 1) i5 f6 i7 i8 i9 i10 i11 x12 i13 i14 i15 x16 = if (decide (i8 < i7)) = true then l6 k i5 f6 i8 i7 i8 i5 (0 : Int) i9 i10 i11 x12 i13 i14 i15 x16 else some (((i13, (i14, (i15, x16))), ()), ()) := by kernel_rfl
theorem l6_eq : l6 (k + 1) i17 f18 i19 i20 i21 i22 i23 i24 i25 i26 x27 i28 i29 i30 x31 = if (decide (i23 < i22)) = true then (f18 (i19, i23, ())).bind fun r32 => if x31.length + [r32.1].length ≤ bigA then l6 k i17 f18 i19 i20 i21 i22 (IntKind.i64.wrap (i23 + 1)) i24 i25 i26 x27 i28 i29 i30 (x31 ++ [r32.1]) else none else l3 k i17 f18 i20 (IntKind.i64.wrap (i21 + 1)) i24 i25 i26 x27 i28 i29 i30 x31 := by kernel_rfl
variable (p_1 rows_2 columns_3 : Int) (f_4 : (Int × Int × Unit) → Option (Int × Unit))
noncomputable def T : OM := l3 k columns_3 f_4 rows_2 (0 : Int) 0 0 0 ([]) p_1 rows_2 columns_3 ([])
theorem of {r} (h : Ev (fun k => T k p_1 rows_2 columns_3 f_4) r) : F (p_1, rows_2, columns_3, f_4, ()) = some r := Ev.run (fun k => by kernel_rfl) h
theorem S : a3D prog ⟨97, sig, F⟩ := sound_k (res := [.cell 8 53]) func97 (cok nM)
end Ac8
namespace Ad3
noncomputable def sig : Sig := ⟨[pM, pI, pI], [oI]⟩
noncomputable def cfg : Cfg := cf (cx [])
noncomputable def fin := finK cfg.c sig [.tmp 6]
noncomputable def F (d : MX × Int × Int × Unit) : OI := anyK (a9W cfg fin (bd f26) (a6v sig.ps d 17))
noncomputable def T (m_1 m_2 m_3 : Int) (m_4 : LI) (i_5 j_6 : Int) : OI := if 0 ≤ (IntKind.i64.wrap ((IntKind.i64.wrap (i_5 * m_3)) + j_6)) ∧ (IntKind.i64.wrap ((IntKind.i64.wrap (i_5 * m_3)) + j_6)) < (m_4.length : Int) then some (((m_4.getD (IntKind.i64.wrap ((IntKind.i64.wrap (i_5 * m_3)) + j_6)).toNat 0 : Int), ()), ()) else none
theorem eq (m_1 m_2 m_3 : Int) (m_4 : LI) (i_5 j_6 : Int) : F ((m_1, (m_2, (m_3, m_4))), i_5, j_6, ()) = T m_1 m_2 m_3 m_4 i_5 j_6 := eq_any fun k => by kernel_rfl
theorem S : a3D prog ⟨26, sig, F⟩ := sound_k (res := [.tmp 6]) func26 (cok nM)
end Ad3
namespace Am8
noncomputable def sig : Sig := ⟨[pI, pI, qM], [oI]⟩
noncomputable def cfg : Cfg := cf (cx [⟨26, Ad3.sig, Ad3.F⟩])
noncomputable def fin := finK cfg.c sig [.tmp 5]
noncomputable def F (d : Int × Int × MX × Unit) : OI := anyK (a9W cfg fin (bd f98) (a6v sig.ps d 10))
variable (i_1 j_2 a_3 a_4 a_5 : Int) (a_6 : LI)
noncomputable def T : OI := (Ad3.F ((a_3, (a_4, (a_5, a_6))), j_2, i_1, ())).bind fun r7 => some ((r7.1.1, ()), ())
theorem eq : F (i_1, j_2, (a_3, (a_4, (a_5, a_6))), ()) = T i_1 j_2 a_3 a_4 a_5 a_6 := eq_any fun k => by kernel_rfl
theorem S : a3D prog ⟨98, sig, F⟩ := sound_k (res := [.tmp 5]) func98 (cok (cM ⟨Ad3.S, nM⟩))
noncomputable def cloG (y : MX × Unit) (d : Int × Int × Unit) : Option (Int × Unit) := (F (b0C [.rptr TMatrix] [(false, tI), (false, tI)] d y)).map (·.1)
noncomputable def clo : Clo := ⟨98, ⟨[(false, tI), (false, tI)], [(.val false, tI, .deep)]⟩, [.rptr TMatrix], cloG⟩
theorem cloS : a2h prog clo := sound_clo (s := ⟨[(false, tI), (false, tI)], [(.val false, tI, .deep)]⟩) (caps := [.rptr TMatrix]) rfl S
end Am8
namespace Ak5
noncomputable def sig : Sig := ⟨[pM], [oM]⟩
noncomputable def cfg : Cfg := cf ⟨a2d tabl, [⟨97, Ac8.sig, Ac8.F⟩], [Am8.clo], [], [], []⟩
noncomputable def fin := finK cfg.c sig [.cell 2 53]
noncomputable def F (d : MX × Unit) : OM := anyK (a9W cfg fin (bd f71) (a6v sig.ps d 11))
variable (m_1 m_2 m_3 : Int) (m_4 : LI)
noncomputable def T : OM := (Ac8.F (m_1, m_3, m_2, Am8.cloG ((m_1, (m_2, (m_3, m_4))), ()), ())).bind fun r5 => some ((r5.1.1, ()), ())
theorem eq : F ((m_1, (m_2, (m_3, m_4))), ()) = T m_1 m_2 m_3 m_4 := eq_any fun k => by kernel_rfl
theorem S : a3D prog ⟨71, sig, F⟩ := sound_k (res := [.cell 2 53]) func71 (⟨nM, mixed_ok, tab_ok tab_good, cM ⟨Ac8.S, nM⟩, cM ⟨Am8.cloS, nM⟩, nM⟩)
end Ak5
namespace Ak1
noncomputable def sig : Sig := ⟨[pM], [oQ]⟩
noncomputable def cfg : Cfg := cf (cx [⟨62, Ad7.sig, Ad7.F⟩, ⟨71, Ak5.sig, Ak5.F⟩])
noncomputable def fin := finK cfg.c sig [.tmp 2]
noncomputable def F (d : MX × Unit) : OQ := anyK (a9W cfg fin (bd f40) (a6v sig.ps d 6))
variable (m_1 m_2 m_3 : Int) (m_4 : LI)
noncomputable def T : OQ := (Ak5.F ((m_1, (m_2, (m_3, m_4))), ())).bind fun r5 => (Ad7.F (r5.1.1, ())).bind fun r6 => some ((r6.1.1, ()), ())
theorem eq : F ((m_1, (m_2, (m_3, m_4))), ()) = T m_1 m_2 m_3 m_4 := eq_any fun k => by kernel_rfl
theorem S : a3D prog ⟨40, sig, F⟩ := sound_k (res := [.tmp 2]) func40 (cok (cM ⟨Ad7.S, cM ⟨Ak5.S, nM⟩⟩))
end Ak1
namespace Ah6
noncomputable def sig : Sig := ⟨[pL, pL, pI], [oI]⟩
noncomputable def cfg : Cfg := cl (cx []) fun id => match id with | 3 => ([0, 1, 2, 7, 10, 11], []) | _ => ([], [])
noncomputable def fin := finK cfg.c sig [.tmp 6]
noncomputable def F (d : LI × LI × Int × Unit) : OI := anyK (a9W cfg fin (bd f119) (a6v sig.ps d 29))
variable (k : Nat) (x4 x5 : LI) (i6 i7 i8 i9 : Int)
noncomputable def l3 : OI := Vm.runT cfg fin k [.inLoop (sub [1, 1, 0, 1, 0, 0] (bd f119)), .inBlock 0, .code (sub [1, 1, 1] (bd f119))] ⟨[vL x4, vL x5, vI i6, dD, dD, dD, dD, vI i7, dD, dD, vI i8, vI i9] ++ a8d 17, []⟩
theorem l3_eq : l3 (k + 1) x4 x5 i6 i7 i8 i9 = if (decide (i9 < i8)) = true then if 0 ≤ i9 ∧ i9 < (x4.length : Int) then if 0 ≤ i9 ∧ i9 < (x5.length : Int) then if i6 = 0 then none else l3 k x4 x5 i6 ((IntKind.i64.wrap (i7 + (IntKind.i64.wrap ((x4.getD i9.toNat 0 : Int) * (x5.getD i9.toNat 0 : Int))))).tmod i6) i8 (IntKind.i64.wrap (i9 + 1)) else none else none else some ((i7, ()), ()) := by kernel_rfl
variable (a_1 b_2 : LI) (p_3 : Int)
noncomputable def T : OI := l3 k a_1 b_2 p_3 (0 : Int) (a_1.length : Int) (0 : Int)
theorem of {r} (h : Ev (fun k => T k a_1 b_2 p_3) r) : F (a_1, b_2, p_3, ()) = some r := Ev.run (fun k => by kernel_rfl) h
theorem S : a3D prog ⟨119, sig, F⟩ := sound_k (res := [.tmp 6]) func119 (cok nM)
end Ah6
namespace Am7
noncomputable def sig : Sig := ⟨[pI, pI, qM, qC], [oI]⟩
noncomputable def cfg : Cfg := cf (cx [⟨90, Ae5.sig, Ae5.F⟩, ⟨119, Ah6.sig, Ah6.F⟩])
noncomputable def fin := finK cfg.c sig [.tmp 6]
noncomputable def F (d : Int × Int × MX × LL × Unit) : OI := anyK (a9W cfg fin (bd f118) (a6v sig.ps d 17))
variable (i_1 j_2 a_3 a_4 a_5 : Int) (a_6 : LI) (a_7 : LL)
noncomputable def T : OI := (Ae5.F ((a_3, (a_4, (a_5, a_6))), i_1, ())).bind fun r8 => if 0 ≤ j_2 ∧ j_2 < (a_7.length : Int) then (Ah6.F (r8.1.1, a_7.getD j_2.toNat ([] : LI), a_3, ())).bind fun r9 => some ((r9.1.1, ()), ()) else none
theorem eq : F (i_1, j_2, (a_3, (a_4, (a_5, a_6))), a_7, ()) = T i_1 j_2 a_3 a_4 a_5 a_6 a_7 := eq_any fun k => by kernel_rfl
theorem S : a3D prog ⟨118, sig, F⟩ := sound_k (res := [.tmp 6]) func118 (cok (cM ⟨Ae5.S, cM ⟨Ah6.S, nM⟩⟩))
noncomputable def cloG (y : MX × LL × Unit) (d : Int × Int × Unit) : Option (Int × Unit) := (F (b0C [.rptr TMatrix, .rptr tQ] [(false, tI), (false, tI)] d y)).map (·.1)
noncomputable def clo : Clo := ⟨118, ⟨[(false, tI), (false, tI)], [(.val false, tI, .deep)]⟩, [.rptr TMatrix, .rptr tQ], cloG⟩
theorem cloS : a2h prog clo := sound_clo (s := ⟨[(false, tI), (false, tI)], [(.val false, tI, .deep)]⟩) (caps := [.rptr TMatrix, .rptr tQ]) rfl S
end Am7
namespace Ah8
noncomputable def sig : Sig := ⟨[pM, pM], [oM]⟩
noncomputable def cfg : Cfg := cf ⟨a2d tabl, [⟨40, Ak1.sig, Ak1.F⟩, ⟨97, Ac8.sig, Ac8.F⟩], [Am7.clo], [], [], []⟩
noncomputable def fin := finK cfg.c sig [.cell 4 53]
noncomputable def F (d : MX × MX × Unit) : OM := anyK (a9W cfg fin (bd f96) (a6v sig.ps d 16))
variable (a_1 a_2 a_3 : Int) (a_4 : LI) (b_5 b_6 b_7 : Int) (b_8 : LI)
noncomputable def T : OM := (Ak1.F ((b_5, (b_6, (b_7, b_8))), ())).bind fun r9 => (Ac8.F (a_1, a_2, b_7, Am7.cloG ((a_1, (a_2, (a_3, a_4))), r9.1.1, ()), ())).bind fun r10 => some ((r10.1.1, ()), ())
theorem eq : F ((a_1, (a_2, (a_3, a_4))), (b_5, (b_6, (b_7, b_8))), ()) = T a_1 a_2 a_3 a_4 b_5 b_6 b_7 b_8 := eq_any fun k => by kernel_rfl
theorem S : a3D prog ⟨96, sig, F⟩ := sound_k (res := [.cell 4 53]) func96 (⟨nM, mixed_ok, tab_ok tab_good, cM ⟨Ak1.S, cM ⟨Ac8.S, nM⟩⟩, cM ⟨Am7.cloS, nM⟩, nM⟩)
end Ah8
namespace Ae8
noncomputable def sig : Sig := ⟨[pS, pI], [oI]⟩
noncomputable def cfg : Cfg := cl (cx [⟨63, Ab1.sig, Ab1.F⟩]) fun id => match id with | 3 => ([5, 12, 13, 14], []) | _ => ([], [])
noncomputable def fin := finK cfg.c sig [.tmp 4]
noncomputable def F (d : SF × Int × Unit) : OI := anyK (a9W cfg fin (bd f132) (a6v sig.ps d 27))
variable (k : Nat) (i6 : Int) (x7 : LL) (i8 i9 : Int)
noncomputable def l3 : OI := Vm.runT cfg fin k [.inLoop (sub [1, 1, 0, 1, 0, 0] (bd f132)), .inBlock 0, .code (sub [1, 1, 1] (bd f132))] ⟨[dD, dD, dD, dD, dD, vI i6, dD, dD, dD, dD, dD, dD, vQ x7, vI i8, vI i9] ++ a8d 12, []⟩
theorem l3_eq : l3 (k + 1) i6 x7 i8 i9 = if (decide (i9 < i8)) = true then if 0 ≤ i9 ∧ i9 < (x7.length : Int) then if (decide (((x7.getD i9.toNat ([] : LI)).length : Int) > 1)) = true then (Ab1.F (x7.getD i9.toNat ([] : LI), ())).bind fun r10 => l3 k (IntKind.i64.wrap (i6 + r10.1.1)) x7 i8 (IntKind.i64.wrap (i9 + 1)) else l3 k i6 x7 i8 (IntKind.i64.wrap (i9 + 1)) else none else some ((i6, ()), ()) := by kernel_rfl
noncomputable def T (k : Nat) (s_1 : LL) (s_2 : Int) (s_3 : LI) (s_4 : LM) (simplex_5 : Int) : OI := if 0 ≤ (0 : Int) ∧ (0 : Int) ≤ simplex_5 ∧ simplex_5 ≤ (s_1.length : Int) then l3 k (0 : Int) (cutL s_1 (0 : Int) simplex_5) ((cutL s_1 (0 : Int) simplex_5).length : Int) (0 : Int) else none
theorem of (s_1 : LL) (s_2 : Int) (s_3 : LI) (s_4 : LM) (simplex_5 : Int) {r} (h : Ev (fun k => T k s_1 s_2 s_3 s_4 simplex_5) r) : F ((s_1, (s_2, (s_3, s_4))), simplex_5, ()) = some r := Ev.run (fun k => by kernel_rfl) h
theorem S : a3D prog ⟨132, sig, F⟩ := sound_k (res := [.tmp 4]) func132 (cok (cM ⟨Ab1.S, nM⟩))
end Ae8
namespace Ad4
noncomputable def sig : Sig := ⟨[pS, pI, pI], [(.val true, TMatrix, .sh)]⟩
noncomputable def cfg : Cfg := cf (cx [⟨132, Ae8.sig, Ae8.F⟩])
noncomputable def fin := finK cfg.c sig [.cell 6 53]
noncomputable def F (d : SF × Int × Int × Unit) : OM := anyK (a9W cfg fin (bd f112) (a6v sig.ps d 16))
variable (s_1 : LL) (s_2 : Int) (s_3 : LI) (s_4 : LM) (simplex_5 place_6 : Int)
noncomputable def T : OM := (Ae8.F ((s_1, (s_2, (s_3, s_4))), simplex_5, ())).bind fun r7 => if 0 ≤ (IntKind.i64.wrap (r7.1.1 + place_6)) ∧ (IntKind.i64.wrap (r7.1.1 + place_6)) < (s_4.length : Int) then let y8 : Int := (s_4.getD (IntKind.i64.wrap (r7.1.1 + place_6)).toNat (0, 0, 0, ([] : LI))).1; let y9 : Int := ((s_4.getD (IntKind.i64.wrap (r7.1.1 + place_6)).toNat (0, 0, 0, ([] : LI))).2).1; let y10 : Int := (((s_4.getD (IntKind.i64.wrap (r7.1.1 + place_6)).toNat (0, 0, 0, ([] : LI))).2).2).1; let y11 : LI := (((s_4.getD (IntKind.i64.wrap (r7.1.1 + place_6)).toNat (0, 0, 0, ([] : LI))).2).2).2; some (((y8, (y9, (y10, y11))), ()), ()) else none
theorem eq : F ((s_1, (s_2, (s_3, s_4))), simplex_5, place_6, ()) = T s_1 s_2 s_3 s_4 simplex_5 place_6 := eq_any fun k => by kernel_rfl
theorem S : a3D prog ⟨112, sig, F⟩ := sound_k (res := [.cell 6 53]) func112 (cok (cM ⟨Ae8.S, nM⟩))
end Ad4
namespace Aa9
noncomputable def sig : Sig := ⟨[pS], [oI, oI, oB]⟩
noncomputable def cfg : Cfg := cl (cx [⟨60, Ac1.sig, Ac1.F⟩, ⟨95, Aj5.sig, Aj5.F⟩, ⟨96, Ah8.sig, Ah8.F⟩, ⟨112, Ad4.sig, Ad4.F⟩]) fun id => match id with | 2 => ([1, 15, 16, 17], [4]) | 8 => ([1, 6, 7, 8, 15, 16, 17, 31, 32], [4, 32]) | 11 => ([1, 6, 7, 8, 9, 10, 15, 16, 17, 31, 32], [4, 32]) | _ => ([], [])
noncomputable def fin := finK cfg.c sig [.tmp 2, .tmp 3, .tmp 4]
noncomputable def F (d : SF × Unit) : Option ((Int × Int × Bool × Unit) × (Unit)) := anyK (a9W cfg fin (bd f81) (a6v sig.ps d 86))
variable (k : Nat) (x5 : LL) (i6 i7 : Int) (x8 : LL) (i9 : Int) (x10 : LI) (x11 : LM)
noncomputable def l2 : Option ((Int × Int × Bool × Unit) × (Unit)) := Vm.runT cfg fin k [.inLoop (sub [1, 0, 1, 0, 0] (bd f81)), .inBlock 0, .code (sub [1, 1] (bd f81))] ⟨[dD, .ref 4 (.root 0), dD, dD, dD, dD, dD, dD, dD, dD, dD, dD, dD, dD, dD, vQ x5, vI i6, vI i7] ++ a8d 68, [(4, ⟨true, [cQ x8, cI i9, cL x10, ⟨(.sl TMatrix), .sh, x11⟩]⟩)]⟩
variable (x13 : LI) (i14 : Int) (x15 : LL) (i16 i17 i18 i19 : Int) (x20 : LL) (i21 : Int) (x22 : LI) (x23 : LM) (x24 : LI)
noncomputable def l8 : Option ((Int × Int × Bool × Unit) × (Unit)) := Vm.runT cfg fin k [.inLoop (sub [1, 0, 1, 0, 0, 1, 1, 0, 0, 1, 1, 1, 1, 1, 0, 0] (bd f81)), .inBlock 2, .inBlock 1, .code (sub [1, 0, 1, 0, 0, 1, 1, 1] (bd f81)), .inLoop (sub [1, 0, 1, 0, 0] (bd f81)), .inBlock 0, .code (sub [1, 1] (bd f81))] ⟨[dD, .ref 4 (.root 0), dD, dD, dD, dD, vL x13, vI i14, .view 32 (.root 0) 1 false, dD, dD, dD, dD, dD, dD, vQ x15, vI i16, vI i17, dD, dD, dD, dD, dD, dD, dD, dD, dD, dD, dD, dD, dD, vI i18, vI i19] ++ a8d 53, [(4, ⟨true, [cQ x20, cI i21, cL x22, ⟨(.sl TMatrix), .sh, x23⟩]⟩), (32, ⟨false, [dL x24]⟩)]⟩
variable (x25 : LI) (i26 i27 i28 : Int) (x29 : LL) (i30 i31 i32 i33 : Int) (x34 : LL) (i35 : Int) (x36 : LI) (x37 : LM) (x38 : LI)
noncomputable def l11 : Option ((Int × Int × Bool × Unit) × (Unit)) := Vm.runT cfg fin k [.inLoop (sub [1, 0, 1, 0, 0, 1, 1, 0, 0, 1, 1, 1, 1, 1, 0, 0, 1, 1, 0, 0, 1, 1, 0, 0] (bd f81)), .inBlock 4, .inBlock 3, .code (sub [1, 0, 1, 0, 0, 1, 1, 0, 0, 1, 1, 1, 1, 1, 0, 0, 1, 1, 1] (bd f81)), .inLoop (sub [1, 0, 1, 0, 0, 1, 1, 0, 0, 1, 1, 1, 1, 1, 0, 0] (bd f81)), .inBlock 2, .inBlock 1, .code (sub [1, 0, 1, 0, 0, 1, 1, 1] (bd f81)), .inLoop (sub [1, 0, 1, 0, 0] (bd f81)), .inBlock 0, .code (sub [1, 1] (bd f81))] ⟨[dD, .ref 4 (.root 0), dD, dD, dD, dD, vL x25, vI i26, .view 32 (.root 0) 1 false, vI i27, vI i28, dD, dD, dD, dD, vQ x29, vI i30, vI i31, dD, dD, dD, dD, dD, dD, dD, dD, dD, dD, dD, dD, dD, vI i32, vI i33] ++ a8d 53, [(4, ⟨true, [cQ x34, cI i35, cL x36, ⟨(.sl TMatrix), .sh, x37⟩]⟩), (32, ⟨false, [dL x38]⟩)]⟩
theorem l2_eq : l2 (k + 1) x5 i6 i7 x8 i9 x10 x11 = if (decide (i7 < i6)) = true then if 0 ≤ i7 ∧ i7 < (x5.length : Int) then if (decide (((x5.getD i7.toNat ([] : LI)).length : Int) < 3)) = true then l2 k x5 i6 (IntKind.i64.wrap (i7 + 1)) x8 i9 x10 x11 else (Ac1.F (x8, i7, ())).bind fun r12 => l8 k (x5.getD i7.toNat ([] : LI)) i7 x5 i6 i7 ((x5.getD i7.toNat ([] : LI)).length : Int) (0 : Int) x8 i9 x10 x11 r12.1.1 else none else some (((0 : Int), ((0 : Int), (false, ()))), ()) := by kernel_rfl
theorem l8_eq : l8 (k + 1) x13 i14 x15 i16 i17 i18 i19 x20 i21 x22 x23 x24 = if (decide (i19 < i18)) = true then l11 k x13 i14 i19 (IntKind.i64.wrap (i19 + 1)) x15 i16 i17 i18 i19 x20 i21 x22 x23 x24 else l2 k x15 i16 (IntKind.i64.wrap (i17 + 1)) x20 i21 x22 x23 := by kernel_rfl
theorem l11_eq : l11 (k + 1) x25 i26 i27 i28 x29 i30 i31 i32 i33 x34 i35 x36 x37 x38 = if (decide (i28 < (x25.length : Int))) = true then (Ad4.F ((x34, (i35, (x36, x37))), i26, i27, ())).bind fun r39 => if 0 ≤ i27 ∧ i27 < (x38.length : Int) then (Ad4.F ((x34, (i35, (x36, x37))), (x38.getD i27.toNat 0 : Int), IntKind.i64.wrap (i28 - 1), ())).bind fun r40 => (Ah8.F (r39.1.1, r40.1.1, ())).bind fun r41 => (Ad4.F ((x34, (i35, (x36, x37))), i26, i28, ())).bind fun r42 => if 0 ≤ i28 ∧ i28 < (x38.length : Int) then (Ad4.F ((x34, (i35, (x36, x37))), (x38.getD i28.toNat 0 : Int), i27, ())).bind fun r43 => (Ah8.F (r42.1.1, r43.1.1, ())).bind fun r44 => (Aj5.F (r41.1.1, r44.1.1, ())).bind fun r45 => if (!r45.1.1) = true then if 0 ≤ i27 ∧ i27 < (x38.length : Int) then (Ac1.F (x34, (x38.getD i27.toNat 0 : Int), ())).bind fun r46 => if 0 ≤ (IntKind.i64.wrap (i28 - 1)) ∧ (IntKind.i64.wrap (i28 - 1)) < (r46.1.1.length : Int) then some ((i26, (r46.1.1.getD (IntKind.i64.wrap (i28 - 1)).toNat 0, (true, ()))), ()) else none else none else l11 k x25 i26 i27 (IntKind.i64.wrap (i28 + 1)) x29 i30 i31 i32 i33 x34 i35 x36 x37 x38 else none else none else l8 k x25 i26 x29 i30 i31 i32 (IntKind.i64.wrap (i33 + 1)) x34 i35 x36 x37 x38 := by kernel_rfl
variable (toArray_1 : LL) (toArray_2 : Int) (toArray_3 : LI) (toArray_4 : LM)
noncomputable def T : Option ((Int × Int × Bool × Unit) × (Unit)) := l2 k toArray_1 (toArray_1.length : Int) (0 : Int) toArray_1 toArray_2 toArray_3 toArray_4
theorem of {r} (h : Ev (fun k => T k toArray_1 toArray_2 toArray_3 toArray_4) r) : F ((toArray_1, (toArray_2, (toArray_3, toArray_4))), ()) = some r := Ev.run (fun k => by kernel_rfl) h
theorem S : a3D prog ⟨81, sig, F⟩ := sound_k (res := [.tmp 2, .tmp 3, .tmp 4]) func81 (cok (cM ⟨Ac1.S, cM ⟨Aj5.S, cM ⟨Ah8.S, cM ⟨Ad4.S, nM⟩⟩⟩⟩))
end Aa9
namespace Ag5
noncomputable def sig : Sig := ⟨[pS], [oB]⟩
noncomputable def cfg : Cfg := cf (cx [⟨80, Ac6.sig, Ac6.F⟩, ⟨81, Aa9.sig, Aa9.F⟩])
noncomputable def fin := finK cfg.c sig [.tmp 2]
noncomputable def F (d : SF × Unit) : OB := anyK (a9W cfg fin (bd f56) (a6v sig.ps d 17))
variable (s_1 : LL) (s_2 : Int) (s_3 : LI) (s_4 : LM)
noncomputable def T : OB := (Ac6.F ((s_1, (s_2, (s_3, s_4))), ())).bind fun r5 => if (!r5.1.1) = true then some ((false, ()), ()) else (Aa9.F ((s_1, (s_2, (s_3, s_4))), ())).bind fun r6 => some ((!r6.1.2.2.1, ()), ())
theorem eq : F ((s_1, (s_2, (s_3, s_4))), ()) = T s_1 s_2 s_3 s_4 := eq_any fun k => by kernel_rfl
theorem S : a3D prog ⟨56, sig, F⟩ := sound_k (res := [.tmp 2]) func56 (cok (cM ⟨Ac6.S, cM ⟨Aa9.S, nM⟩⟩))
end Ag5
namespace Ag6
noncomputable def sig : Sig := ⟨[pS], [oB]⟩
noncomputable def cfg : Cfg := cf (cx [⟨56, Ag5.sig, Ag5.F⟩])
noncomputable def fin := finK cfg.c sig [.tmp 2]
noncomputable def F (d : SF × Unit) : OB := anyK (a9W cfg fin (bd f55) (a6v sig.ps d 6))
variable (s_1 : LL) (s_2 : Int) (s_3 : LI) (s_4 : LM)
noncomputable def T : OB := (Ag5.F ((s_1, (s_2, (s_3, s_4))), ())).bind fun r5 => some ((!r5.1.1, ()), ())
theorem eq : F ((s_1, (s_2, (s_3, s_4))), ()) = T s_1 s_2 s_3 s_4 := eq_any fun k => by kernel_rfl
theorem S : a3D prog ⟨55, sig, F⟩ := sound_k (res := [.tmp 2]) func55 (cok (cM ⟨Ag5.S, nM⟩))
noncomputable def cloG (y : Unit) (d : SF × Unit) : Option (Bool × Unit) := (F (b0C [] [(true, TSheaf)] d y)).map (·.1)
noncomputable def clo : Clo := ⟨55, ⟨[(true, TSheaf)], [(.val false, .bool, .deep)]⟩, [], cloG⟩
theorem cloS : a2h prog clo := sound_clo (s := ⟨[(true, TSheaf)], [(.val false, .bool, .deep)]⟩) (caps := []) rfl S
end Ag6
namespace Ah3
noncomputable def sig : Sig := ⟨[pQ, pQ, .fnx ⟨[(false, tL), (false, tL)], [oB]⟩], [oB]⟩
noncomputable def cfg : Cfg := cl (cx []) fun id => match id with | 4 => ([1, 2, 15, 16, 17], []) | _ => ([], [])
noncomputable def fin := finK cfg.c sig [.tmp 6]
noncomputable def F (d : LL × LL × ((LI × LI × Unit) → Option (Bool × Unit)) × Unit) : OB := anyK (a9W cfg fin (bd f99) (a6v sig.ps d 32))
variable (k : Nat) (x4 : LL) (f5 : (LI × LI × Unit) → Option (Bool × Unit)) (x6 : LL) (i7 i8 : Int)
noncomputable def l4 : OB := Vm.runT cfg fin k [.inLoop (sub [1, 1, 0, 1, 0, 0] (bd f99)), .inBlock 0, .code (sub [1, 1, 1] (bd f99))] ⟨[dD, vQ x4, .fnx ⟨[(false, tL), (false, tL)], [(.val false, .bool, .deep)]⟩ f5, dD, dD, dD, dD, dD, dD, dD, dD, dD, dD, dD, dD, vQ x6, vI i7, vI i8] ++ a8d 14, []⟩
theorem l4_eq : l4 (k + 1) x4 f5 x6 i7 i8 = if (decide (i8 < i7)) = true then if 0 ≤ i8 ∧ i8 < (x6.length : Int) then if 0 ≤ i8 ∧ i8 < (x4.length : Int) then (f5 (x6.getD i8.toNat ([] : LI), x4.getD i8.toNat ([] : LI), ())).bind fun r9 => if (!r9.1) = true then some ((false, ()), ()) else l4 k x4 f5 x6 i7 (IntKind.i64.wrap (i8 + 1)) else none else none else some ((true, ()), ()) := by kernel_rfl
variable (s1_1 s2_2 : LL) (f_3 : (LI × LI × Unit) → Option (Bool × Unit))
noncomputable def T : OB := if ((s1_1.length : Int) != (s2_2.length : Int)) = true then some ((false, ()), ()) else l4 k s2_2 f_3 s1_1 (s1_1.length : Int) (0 : Int)
theorem of {r} (h : Ev (fun k => T k s1_1 s2_2 f_3) r) : F (s1_1, s2_2, f_3, ()) = some r := Ev.run (fun k => by kernel_rfl) h
theorem S : a3D prog ⟨99, sig, F⟩ := sound_k (res := [.tmp 6]) func99 (cok nM)
end Ah3
namespace Ak0
noncomputable def sig : Sig := ⟨[pQ, pQ], [oB]⟩
noncomputable def cfg : Cfg := cf ⟨a2d tabl, [⟨99, Ah3.sig, Ah3.F⟩], [Ab6.clo], [], [], []⟩
noncomputable def fin := finK cfg.c sig [.tmp 4]
noncomputable def F (d : LL × LL × Unit) : OB := anyK (a9W cfg fin (bd f72) (a6v sig.ps d 8))
variable (a_1 b_2 : LL)
noncomputable def T : OB := (Ah3.F (a_1, b_2, Ab6.cloG (()), ())).bind fun r3 => some ((r3.1.1, ()), ())
theorem eq : F (a_1, b_2, ()) = T a_1 b_2 := eq_any fun k => by kernel_rfl
theorem S : a3D prog ⟨72, sig, F⟩ := sound_k (res := [.tmp 4]) func72 (⟨nM, mixed_ok, tab_ok tab_good, cM ⟨Ah3.S, nM⟩, cM ⟨Ab6.cloS, nM⟩, nM⟩)
end Ak0
namespace Aj4
noncomputable def sig : Sig := ⟨[pC, pC], [oB]⟩
noncomputable def cfg : Cfg := cf (cx [⟨72, Ak0.sig, Ak0.F⟩])
noncomputable def fin := finK cfg.c sig [.tmp 4]
noncomputable def F (d : LL × LL × Unit) : OB := anyK (a9W cfg fin (bd f82) (a6v sig.ps d 10))
variable (a_1 b_2 : LL)
noncomputable def T : OB := (Ak0.F (a_1, b_2, ())).bind fun r3 => some ((r3.1.1, ()), ())
theorem eq : F (a_1, b_2, ()) = T a_1 b_2 := eq_any fun k => by kernel_rfl
theorem S : a3D prog ⟨82, sig, F⟩ := sound_k (res := [.tmp 4]) func82 (cok (cM ⟨Ak0.S, nM⟩))
end Aj4
namespace Ai7
noncomputable def sig : Sig := ⟨[pS, pS], [oB]⟩
noncomputable def cfg : Cfg := cf (cx [⟨82, Aj4.sig, Aj4.F⟩])
noncomputable def fin := finK cfg.c sig [.tmp 4]
noncomputable def F (d : SF × SF × Unit) : OB := anyK (a9W cfg fin (bd f58) (a6v sig.ps d 17))
noncomputable def T (a_1 : LL) (a_2 : Int) (a_3 : LI) (a_4 : LM) (b_5 : LL) (b_6 : Int) (b_7 : LI) (b_8 : LM) : OB := (Aj4.F (a_1, b_5, ())).bind fun r9 => if r9.1.1 = true then some ((a_2 == b_6, ()), ()) else some ((false, ()), ())
theorem eq (a_1 : LL) (a_2 : Int) (a_3 : LI) (a_4 : LM) (b_5 : LL) (b_6 : Int) (b_7 : LI) (b_8 : LM) : F ((a_1, (a_2, (a_3, a_4))), (b_5, (b_6, (b_7, b_8))), ()) = T a_1 a_2 a_3 a_4 b_5 b_6 b_7 b_8 := eq_any fun k => by kernel_rfl
theorem S : a3D prog ⟨58, sig, F⟩ := sound_k (res := [.tmp 4]) func58 (cok (cM ⟨Aj4.S, nM⟩))
end Ai7
namespace Ag7
noncomputable def sig : Sig := ⟨[pS, .rptr (.sl TSheaf)], [oB]⟩
noncomputable def cfg : Cfg := cf (cx [⟨58, Ai7.sig, Ai7.F⟩])
noncomputable def fin := finK cfg.c sig [.tmp 3]
noncomputable def F (d : SF × List SF × Unit) : OB := anyK (a9W cfg fin (bd f57) (a6v sig.ps d 10))
variable (s_1 : LL) (s_2 : Int) (s_3 : LI) (s_4 : LM) (a_5 : List SF)
noncomputable def T : OB := if 0 ≤ (0 : Int) ∧ (0 : Int) < (a_5.length : Int) then (Ai7.F ((s_1, (s_2, (s_3, s_4))), a_5.getD (0 : Int).toNat (([] : LL), 0, ([] : LI), ([] : LM)), ())).bind fun r6 => some ((!r6.1.1, ()), ()) else none
theorem eq : F ((s_1, (s_2, (s_3, s_4))), a_5, ()) = T s_1 s_2 s_3 s_4 a_5 := eq_any fun k => by kernel_rfl
theorem S : a3D prog ⟨57, sig, F⟩ := sound_k (res := [.tmp 3]) func57 (cok (cM ⟨Ai7.S, nM⟩))
noncomputable def cloG (y : List SF × Unit) (d : SF × Unit) : Option (Bool × Unit) := (F (b0C [.rptr (.sl TSheaf)] [(true, TSheaf)] d y)).map (·.1)
noncomputable def clo : Clo := ⟨57, ⟨[(true, TSheaf)], [(.val false, .bool, .deep)]⟩, [.rptr (.sl TSheaf)], cloG⟩
theorem cloS : a2h prog clo := sound_clo (s := ⟨[(true, TSheaf)], [(.val false, .bool, .deep)]⟩) (caps := [.rptr (.sl TSheaf)]) rfl S
end Ag7
namespace Ai6
noncomputable def sig : Sig := ⟨[.val false (.sl TSheaf)], [oI]⟩
noncomputable def cfg : Cfg := cf ⟨a2d tabl, [⟨54, Ai1.sig, Ai1.F⟩], [Ag6.clo, Ag7.clo], [], [], []⟩
noncomputable def fin := finK cfg.c sig [.tmp 2]
noncomputable def F (d : List SF × Unit) : OI := anyK (a9W cfg fin (bd f23) (a6v sig.ps d 8))
variable (list_1 : List SF)
noncomputable def T : OI := (Ai1.F (list_1, Ag6.cloG (()), ())).bind fun r2 => if r2.1.1 = true then some ((1, ()), ()) else (Ai1.F (list_1, Ag7.cloG (list_1, ()), ())).bind fun r3 => if r3.1.1 = true then some ((6, ()), ()) else some ((0, ()), ())
theorem eq : F (list_1, ()) = T list_1 := eq_any fun k => by kernel_rfl
theorem S : a3D prog ⟨23, sig, F⟩ := sound_k (res := [.tmp 2]) func23 (⟨nM, mixed_ok, tab_ok tab_good, cM ⟨Ai1.S, nM⟩, cM ⟨Ag6.cloS, cM ⟨Ag7.cloS, nM⟩⟩, nM⟩)
end Ai6
namespace Ag8
noncomputable def sig : Sig := ⟨[pS, pS], [oL, oI]⟩
noncomputable def cfg : Cfg := cl (cx []) fun id => match id with | 4 => ([2, 3, 6, 7, 11, 12], [8, 12, 24]) | _ => ([], [])
noncomputable def fin := finK cfg.c sig [.tmp 4, .tmp 5]
noncomputable def F (d : SF × SF × Unit) : Option ((LI × Int × Unit) × (Unit)) := anyK (a9W cfg fin (bd f24) (a6v sig.ps d 35))
variable (k : Nat) (i9 i10 i11 : Int) (x12 : LL) (i13 : Int) (x14 : LI) (x15 : LM) (x16 : LL) (i17 : Int) (x18 : LI) (x19 : LM) (x20 : LI)
noncomputable def l4 : Option ((LI × Int × Unit) × (Unit)) := Vm.runT cfg fin k [.inLoop (sub [1, 1, 1, 0, 1, 0, 0] (bd f24)), .inBlock 0, .code (sub [1, 1, 1, 1] (bd f24))] ⟨[dD, dD, .ref 8 (.root 0), .ref 12 (.root 0), dD, dD, .view 24 (.root 0) 1 false, vI i9, dD, dD, dD, vI i10, vI i11] ++ a8d 22, [(8, ⟨true, [cQ x12, cI i13, cL x14, ⟨(.sl TMatrix), .sh, x15⟩]⟩), (12, ⟨true, [cQ x16, cI i17, cL x18, ⟨(.sl TMatrix), .sh, x19⟩]⟩), (24, ⟨false, [dL x20]⟩)]⟩
theorem l4_eq : l4 (k + 1) i9 i10 i11 x12 i13 x14 x15 x16 i17 x18 x19 x20 = if (decide (i11 < i10)) = true then if x20.length + [i9].length ≤ bigA then if 0 ≤ i11 ∧ i11 < (x14.length : Int) then if 0 ≤ i11 ∧ i11 < (x18.length : Int) then l4 k (IntKind.i64.wrap (i9 + (IntKind.i64.wrap ((x14.getD i11.toNat 0 : Int) * (x18.getD i11.toNat 0 : Int))))) i10 (IntKind.i64.wrap (i11 + 1)) x12 i13 x14 x15 x16 i17 x18 x19 (x20 ++ [i9]) else none else none else none else some ((x20, (i9, ())), ()) := by kernel_rfl
variable (a_1 : LL) (a_2 : Int) (a_3 : LI) (a_4 : LM) (b_5 : LL) (b_6 : Int) (b_7 : LI) (b_8 : LM)
noncomputable def T : Option ((LI × Int × Unit) × (Unit)) := l4 k (0 : Int) (a_3.length : Int) (0 : Int) a_1 a_2 a_3 a_4 b_5 b_6 b_7 b_8 ([])
theorem of {r} (h : Ev (fun k => T k a_1 a_2 a_3 a_4 b_5 b_6 b_7 b_8) r) : F ((a_1, (a_2, (a_3, a_4))), (b_5, (b_6, (b_7, b_8))), ()) = some r := Ev.run (fun k => by kernel_rfl) h
theorem S : a3D prog ⟨24, sig, F⟩ := sound_k (res := [.tmp 4, .tmp 5]) func24 (cok nM)
end Ag8
namespace Ae0
noncomputable def sig : Sig := ⟨[pI, pI], [oI]⟩
noncomputable def cfg : Cfg := cf (cx [])
noncomputable def fin := finK cfg.c sig [.tmp 4]
noncomputable def F (d : Int × Int × Unit) : OI := anyK (a9W cfg fin (bd f27) (a6v sig.ps d 12))
variable (a_1 p_2 : Int)
noncomputable def T : OI := if p_2 = 0 then none else if p_2 = 0 then none else some (((IntKind.i64.wrap ((a_1.tmod p_2) + p_2)).tmod p_2, ()), ())
theorem eq : F (a_1, p_2, ()) = T a_1 p_2 := eq_any fun k => by kernel_rfl
theorem S : a3D prog ⟨27, sig, F⟩ := sound_k (res := [.tmp 4]) func27 (cok nM)
end Ae0
namespace Ae7
noncomputable def sig : Sig := ⟨[pL, pL, pI, pI], [oL]⟩
noncomputable def cfg : Cfg := cl (cx []) fun id => match id with | 3 => ([0, 1, 2, 3, 9, 12, 13], [36]) | _ => ([], [])
noncomputable def fin := finK cfg.c sig [.tmp 8]
noncomputable def F (d : LI × LI × Int × Int × Unit) : OL := anyK (a9W cfg fin (bd f87) (a6v sig.ps d 34))
variable (k : Nat) (x5 x6 : LI) (i7 i8 i9 i10 : Int) (x11 : LI)
noncomputable def l3 : OL := Vm.runT cfg fin k [.inLoop (sub [1, 1, 0, 1, 0, 0] (bd f87)), .inBlock 0, .code (sub [1, 1, 1] (bd f87))] ⟨[vL x5, vL x6, vI i7, vI i8, dD, dD, dD, dD, dD, .view 36 (.root 0) 1 false, dD, dD, vI i9, vI i10] ++ a8d 20, [(36, ⟨false, [dL x11]⟩)]⟩
theorem l3_eq : l3 (k + 1) x5 x6 i7 i8 i9 i10 x11 = if (decide (i10 < i9)) = true then if 0 ≤ i10 ∧ i10 < (x5.length : Int) then if 0 ≤ i10 ∧ i10 < (x6.length : Int) then if i8 = 0 then none else if x11.length + [(IntKind.i64.wrap ((x5.getD i10.toNat 0 : Int) + (IntKind.i64.wrap (i7 * (x6.getD i10.toNat 0 : Int))))).tmod i8].length ≤ bigA then l3 k x5 x6 i7 i8 i9 (IntKind.i64.wrap (i10 + 1)) (x11 ++ [(IntKind.i64.wrap ((x5.getD i10.toNat 0 : Int) + (IntKind.i64.wrap (i7 * (x6.getD i10.toNat 0 : Int))))).tmod i8]) else none else none else none else some ((x11, ()), ()) := by kernel_rfl
variable (a_1 b_2 : LI) (c_3 p_4 : Int)
noncomputable def T : OL := l3 k a_1 b_2 c_3 p_4 (a_1.length : Int) (0 : Int) ([])
theorem of {r} (h : Ev (fun k => T k a_1 b_2 c_3 p_4) r) : F (a_1, b_2, c_3, p_4, ()) = some r := Ev.run (fun k => by kernel_rfl) h
theorem S : a3D prog ⟨87, sig, F⟩ := sound_k (res := [.tmp 8]) func87 (cok nM)
end Ae7
namespace Af9
noncomputable def sig : Sig := ⟨[pI, pI, pI], [oI]⟩
noncomputable def cfg : Cfg := cl (cx []) fun id => match id with | 2 => ([0, 1, 2, 7], []) | _ => ([], [])
noncomputable def fin := finK cfg.c sig [.tmp 6]
noncomputable def F (d : Int × Int × Int × Unit) : OI := anyK (a9W cfg fin (bd f115) (a6v sig.ps d 26))
variable (k : Nat) (i4 i5 i6 i7 : Int)
noncomputable def l2 : OI := Vm.runT cfg fin k [.inLoop (sub [1, 1, 0, 0, 0] (bd f115)), .inBlock 0, .code (sub [1, 1, 1] (bd f115))] ⟨[vI i4, vI i5, vI i6, dD, dD, dD, dD, vI i7] ++ a8d 18, []⟩
theorem l2_eq : l2 (k + 1) i4 i5 i6 i7 = if (decide (i5 > 0)) = true then if (2 : Int) = 0 then none else if ((i5.tmod (2 : Int)) == 1) = true then if i6 = 0 then none else if i6 = 0 then none else if (2 : Int) = 0 then none else l2 k ((IntKind.i64.wrap (i4 * i4)).tmod i6) (IntKind.i64.wrap (i5.tdiv (2 : Int))) i6 ((IntKind.i64.wrap (i7 * i4)).tmod i6) else if i6 = 0 then none else if (2 : Int) = 0 then none else l2 k ((IntKind.i64.wrap (i4 * i4)).tmod i6) (IntKind.i64.wrap (i5.tdiv (2 : Int))) i6 i7 else some ((i7, ()), ()) := by kernel_rfl
variable (a_1 n_2 p_3 : Int)
noncomputable def T : OI := l2 k a_1 n_2 p_3 (1 : Int)
theorem of {r} (h : Ev (fun k => T k a_1 n_2 p_3) r) : F (a_1, n_2, p_3, ()) = some r := Ev.run (fun k => by kernel_rfl) h
theorem S : a3D prog ⟨115, sig, F⟩ := sound_k (res := [.tmp 6]) func115 (cok nM)
end Af9
namespace Ah7
noncomputable def sig : Sig := ⟨[pI, pI], [oI]⟩
noncomputable def cfg : Cfg := cf (cx [⟨115, Af9.sig, Af9.F⟩])
noncomputable def fin := finK cfg.c sig [.tmp 4]
noncomputable def F (d : Int × Int × Unit) : OI := anyK (a9W cfg fin (bd f88) (a6v sig.ps d 10))
variable (a_1 p_2 : Int)
noncomputable def T : OI := (Af9.F (a_1, IntKind.i64.wrap (p_2 - (2 : Int)), p_2, ())).bind fun r3 => some ((r3.1.1, ()), ())
theorem eq : F (a_1, p_2, ()) = T a_1 p_2 := eq_any fun k => by kernel_rfl
theorem S : a3D prog ⟨88, sig, F⟩ := sound_k (res := [.tmp 4]) func88 (cok (cM ⟨Af9.S, nM⟩))
end Ah7
namespace Am0
noncomputable def sig : Sig := ⟨[pL, .rptr tI], [oB]⟩
noncomputable def cfg : Cfg := cf (cx [])
noncomputable def fin := finK cfg.c sig [.tmp 3]
noncomputable def F (d : LI × Int × Unit) : OB := anyK (a9W cfg fin (bd f86) (a6v sig.ps d 9))
variable (row_1 : LI) (a_2 : Int)
noncomputable def T : OB := if 0 ≤ a_2 ∧ a_2 < (row_1.length : Int) then some (((row_1.getD a_2.toNat 0 : Int) != (0 : Int), ()), ()) else none
theorem eq : F (row_1, a_2, ()) = T row_1 a_2 := eq_any fun k => by kernel_rfl
theorem S : a3D prog ⟨86, sig, F⟩ := sound_k (res := [.tmp 3]) func86 (cok nM)
noncomputable def cloG (y : Int × Unit) (d : LI × Unit) : Option (Bool × Unit) := (F (b0C [.rptr tI] [(false, tL)] d y)).map (·.1)
noncomputable def clo : Clo := ⟨86, ⟨[(false, tL)], [(.val false, .bool, .deep)]⟩, [.rptr tI], cloG⟩
theorem cloS : a2h prog clo := sound_clo (s := ⟨[(false, tL)], [(.val false, .bool, .deep)]⟩) (caps := [.rptr tI]) rfl S
end Am0
namespace Ab9
noncomputable def sig : Sig := ⟨[.wr false tQ .shal, pI, pI], [oL, oI]⟩
noncomputable def cfg : Cfg := ⟨⟨a2d tabl, [⟨27, Ae0.sig, Ae0.F⟩, ⟨85, Ad8.sig, Ad8.F⟩, ⟨87, Ae7.sig, Ae7.F⟩, ⟨88, Ah7.sig, Ah7.F⟩], [Am0.clo], [], [], [24]⟩, [0], [], fun id => match id with | 4 => ([0, 1, 2, 8, 9, 16, 17], [0, 32]) | 17 => ([0, 1, 2, 8, 9, 10, 11, 16, 17, 79, 80, 81], [0, 32, 40]) | _ => ([], []), fun _ => []⟩
noncomputable def fin := finK cfg.c sig [.tmp 6, .tmp 7]
noncomputable def F (d : LL × Int × Int × Unit) : Option ((LI × Int × Unit) × (LL × Unit)) := anyK (a9W cfg fin (bd f61) (a6v sig.ps d 120))
variable (k : Nat) (i4 i5 i6 i7 i8 : Int) (x9 : LL) (x10 : LI)
noncomputable def l4 : Option ((LI × Int × Unit) × (LL × Unit)) := Vm.runT cfg fin k [.inLoop (sub [1, 1, 1, 0, 1, 0, 0] (bd f61)), .inBlock 0, .code (sub [1, 1, 1, 1] (bd f61))] ⟨[.view 0 (.root 0) 1 false, vI i4, vI i5, dD, dD, dD, dD, dD, .view 32 (.root 0) 1 false, vI i6, dD, dD, dD, dD, dD, dD, vI i7, vI i8] ++ a8d 102, [(0, ⟨false, [⟨tQ, .shal, x9⟩]⟩), (32, ⟨false, [dL x10]⟩)]⟩
variable (i17 i18 i19 i20 i21 i22 i23 i24 : Int) (x25 : LL) (x26 : LI) (i27 : Int)
noncomputable def l17 : Option ((LI × Int × Unit) × (LL × Unit)) := Vm.runT cfg fin k [.inLoop (sub [1, 1, 1, 0, 1, 0, 0, 1, 1, 0, 0, 1, 1, 1, 1, 1, 1, 1, 1, 0, 1, 0, 0] (bd f61)), .inBlock 2, .code (sub [1, 1, 1, 0, 1, 0, 0, 1, 1, 0, 0, 1, 1, 1, 1, 1, 1, 1, 1, 1] (bd f61)), .inBlock 1, .code (sub [1, 1, 1, 0, 1, 0, 0, 1, 1, 1] (bd f61)), .inLoop (sub [1, 1, 1, 0, 1, 0, 0] (bd f61)), .inBlock 0, .code (sub [1, 1, 1, 1] (bd f61))] ⟨[.view 0 (.root 0) 1 false, vI i17, vI i18, dD, dD, dD, dD, dD, .view 32 (.root 0) 1 false, vI i19, .ref 40 (.root 0), vI i20, dD, dD, dD, dD, vI i21, vI i22, dD, dD, dD, dD, dD, dD, dD, dD, dD, dD, dD, dD, dD, dD, dD, dD, dD, dD, dD, dD, dD, dD, dD, dD, dD, dD, dD, dD, dD, dD, dD, dD, dD, dD, dD, dD, dD, dD, dD, dD, dD, dD, dD, dD, dD, dD, dD, dD, dD, dD, dD, dD, dD, dD, dD, dD, dD, dD, dD, dD, dD, .view 0 (.root 0) 1 false, vI i23, vI i24] ++ a8d 38, [(0, ⟨false, [⟨tQ, .shal, x25⟩]⟩), (32, ⟨false, [dL x26]⟩), (40, ⟨true, [cI i27]⟩)]⟩
theorem l4_eq : l4 (k + 1) i4 i5 i6 i7 i8 x9 x10 = if (decide (i8 < i7)) = true then if 0 ≤ (x10.length : Int) ∧ (x10.length : Int) ≤ (x9.length : Int) ∧ (x9.length : Int) ≤ (x9.length : Int) then (Ad8.F (cutL x9 (x10.length : Int) (x9.length : Int), Am0.cloG (i8, ()), ())).bind fun r11 => if (decide (r11.1.1 < 0)) = true then l4 k i4 i5 (0 : Int) i7 (IntKind.i64.wrap (i8 + 1)) x9 x10 else if (decide (r11.1.1 > 0)) = true then if 0 ≤ (IntKind.i64.wrap ((x10.length : Int) + r11.1.1)) ∧ (IntKind.i64.wrap ((x10.length : Int) + r11.1.1)) < (x9.length : Int) then if 0 ≤ (x10.length : Int) ∧ (x10.length : Int) < (x9.length : Int) then if 0 ≤ (x10.length : Int) ∧ (x10.length : Int) < (x9.length : Int) then let y12 : LL := x9.set (x10.length : Int).toNat (x9.getD (IntKind.i64.wrap ((x10.length : Int) + r11.1.1)).toNat ([] : LI)); if 0 ≤ (IntKind.i64.wrap ((x10.length : Int) + r11.1.1)) ∧ (IntKind.i64.wrap ((x10.length : Int) + r11.1.1)) < (y12.length : Int) then let y13 : LL := y12.set (IntKind.i64.wrap ((x10.length : Int) + r11.1.1)).toNat (x9.getD (x10.length : Int).toNat ([] : LI)); (Ae0.F (IntKind.i64.wrap (0 - i6), i5, ())).bind fun r14 => if 0 ≤ (x10.length : Int) ∧ (x10.length : Int) < (y13.length : Int) then if 0 ≤ i8 ∧ i8 < ((y13.getD (x10.length : Int).toNat ([] : LI)).length : Int) then if i5 = 0 then none else if 0 ≤ i4 ∧ i4 ≤ (bigN : Int) then if 0 ≤ (x10.length : Int) ∧ (x10.length : Int) < (y13.length : Int) then (Ah7.F ((y13.getD (x10.length : Int).toNat ([] : LI)).getD i8.toNat 0, i5, ())).bind fun r15 => (Ae7.F (List.replicate i4.toNat (0 : Int), y13.getD (x10.length : Int).toNat ([] : LI), r15.1.1, i5, ())).bind fun r16 => if 0 ≤ (x10.length : Int) ∧ (x10.length : Int) < (y13.length : Int) then l17 k i4 i5 ((IntKind.i64.wrap (r14.1.1 * ((y13.getD (x10.length : Int).toNat ([] : LI)).getD i8.toNat 0))).tmod i5) (x10.length : Int) i7 i8 ((y13.set (x10.length : Int).toNat r16.1.1).length : Int) (0 : Int) (y13.set (x10.length : Int).toNat r16.1.1) x10 i8 else none else none else none else none else none else none else none else none else none else if 0 ≤ (x10.length : Int) ∧ (x10.length : Int) < (x9.length : Int) then if 0 ≤ i8 ∧ i8 < ((x9.getD (x10.length : Int).toNat ([] : LI)).length : Int) then if i5 = 0 then none else if 0 ≤ i4 ∧ i4 ≤ (bigN : Int) then if 0 ≤ (x10.length : Int) ∧ (x10.length : Int) < (x9.length : Int) then (Ah7.F ((x9.getD (x10.length : Int).toNat ([] : LI)).getD i8.toNat 0, i5, ())).bind fun r29 => (Ae7.F (List.replicate i4.toNat (0 : Int), x9.getD (x10.length : Int).toNat ([] : LI), r29.1.1, i5, ())).bind fun r30 => if 0 ≤ (x10.length : Int) ∧ (x10.length : Int) < (x9.length : Int) then l17 k i4 i5 ((IntKind.i64.wrap (i6 * ((x9.getD (x10.length : Int).toNat ([] : LI)).getD i8.toNat 0))).tmod i5) (x10.length : Int) i7 i8 ((x9.set (x10.length : Int).toNat r30.1.1).length : Int) (0 : Int) (x9.set (x10.length : Int).toNat r30.1.1) x10 i8 else none else none else none else none else none else none else some ((x10, (i6, ())), (x9, ())) := by kernel_rfl
theorem l17_eq : l17 (k + 1) i17 i18 i19 i20 i21 i22 i23 i24 x25 x26 i27 = if (decide (i24 < i23)) = true then if 0 ≤ i24 ∧ i24 < (x25.length : Int) then if (i24 != i20) = true then if 0 ≤ i27 ∧ i27 < ((x25.getD i24.toNat ([] : LI)).length : Int) then if (((x25.getD i24.toNat ([] : LI)).getD i27.toNat 0) != 0) = true then if 0 ≤ i20 ∧ i20 < (x25.length : Int) then if 0 ≤ i27 ∧ i27 < ((x25.getD i24.toNat ([] : LI)).length : Int) then (Ae7.F (x25.getD i24.toNat ([] : LI), x25.getD i20.toNat ([] : LI), IntKind.i64.wrap (i18 - ((x25.getD i24.toNat ([] : LI)).getD i27.toNat 0)), i18, ())).bind fun r28 => if 0 ≤ i24 ∧ i24 < (x25.length : Int) then l17 k i17 i18 i19 i20 i21 i22 i23 (IntKind.i64.wrap (i24 + 1)) (x25.set i24.toNat r28.1.1) x26 i27 else none else none else none else l17 k i17 i18 i19 i20 i21 i22 i23 (IntKind.i64.wrap (i24 + 1)) x25 x26 i27 else none else l17 k i17 i18 i19 i20 i21 i22 i23 (IntKind.i64.wrap (i24 + 1)) x25 x26 i27 else none else if x26.length + [i27].length ≤ bigA then l4 k i17 i18 i19 i21 (IntKind.i64.wrap (i22 + 1)) x25 (x26 ++ [i27]) else none := by kernel_rfl
variable (toArray_1 : LL) (a_2 a_3 : Int)
noncomputable def T : Option ((LI × Int × Unit) × (LL × Unit)) := l4 k a_2 a_3 (1 : Int) a_2 (0 : Int) toArray_1 ([])
theorem of {r} (h : Ev (fun k => T k toArray_1 a_2 a_3) r) : F (toArray_1, a_2, a_3, ()) = some r := Ev.run (fun k => by kernel_rfl) h
theorem S : a3D prog ⟨61, sig, F⟩ := sound_k (res := [.tmp 6, .tmp 7]) func61 (⟨nM, mixed_ok, tab_ok tab_good, cM ⟨Ae0.S, cM ⟨Ad8.S, cM ⟨Ae7.S, cM ⟨Ah7.S, nM⟩⟩⟩⟩, cM ⟨Am0.cloS, nM⟩, nM⟩)
end Ab9
namespace Ak4
noncomputable def sig : Sig := ⟨[pM], [oI]⟩
noncomputable def cfg : Cfg := cf (cx [⟨61, Ab9.sig, Ab9.F⟩, ⟨62, Ad7.sig, Ad7.F⟩, ⟨63, Ab1.sig, Ab1.F⟩])
noncomputable def fin := finK cfg.c sig [.tmp 2]
noncomputable def F (d : MX × Unit) : OI := anyK (a9W cfg fin (bd f28) (a6v sig.ps d 17))
variable (m_1 m_2 m_3 : Int) (m_4 : LI)
noncomputable def T : OI := (Ad7.F ((m_1, (m_2, (m_3, m_4))), ())).bind fun r5 => (Ab9.F (r5.1.1, m_3, m_1, ())).bind fun r6 => (Ab1.F (r6.1.1, ())).bind fun r7 => some ((r7.1.1, ()), ())
theorem eq : F ((m_1, (m_2, (m_3, m_4))), ()) = T m_1 m_2 m_3 m_4 := eq_any fun k => by kernel_rfl
theorem S : a3D prog ⟨28, sig, F⟩ := sound_k (res := [.tmp 2]) func28 (cok (cM ⟨Ab9.S, cM ⟨Ad7.S, cM ⟨Ab1.S, nM⟩⟩⟩))
end Ak4
namespace Am1
noncomputable def sig : Sig := ⟨[pI, pI, pQ], [oM]⟩
noncomputable def cfg : Cfg := cf (cx [⟨59, Ag9.sig, Ag9.F⟩, ⟨64, Aa3.sig, Aa3.F⟩])
noncomputable def fin := finK cfg.c sig [.cell 6 53]
noncomputable def F (d : Int × Int × LL × Unit) : OM := anyK (a9W cfg fin (bd f29) (a6v sig.ps d 14))
variable (p_1 columns_2 : Int) (rows_3 : LL)
noncomputable def T : OM := (Ag9.F (rows_3, ())).bind fun r4 => (Aa3.F (rows_3, ())).bind fun r5 => some (((p_1, (r4.1.1, (columns_2, r5.1.1))), ()), ())
theorem eq : F (p_1, columns_2, rows_3, ()) = T p_1 columns_2 rows_3 := eq_any fun k => by kernel_rfl
theorem S : a3D prog ⟨29, sig, F⟩ := sound_k (res := [.cell 6 53]) func29 (cok (cM ⟨Ag9.S, cM ⟨Aa3.S, nM⟩⟩))
end Am1
namespace Aa2
noncomputable def sig : Sig := ⟨[pS, pS], [oI, oI]⟩
noncomputable def cfg : Cfg := cl (cx [⟨23, Ai6.sig, Ai6.F⟩, ⟨24, Ag8.sig, Ag8.F⟩, ⟨25, Ab8.sig, Ab8.F⟩, ⟨26, Ad3.sig, Ad3.F⟩, ⟨27, Ae0.sig, Ae0.F⟩, ⟨28, Ak4.sig, Ak4.F⟩, ⟨29, Am1.sig, Am1.F⟩]) fun id => match id with | 9 => ([2, 3, 7, 8, 9, 36, 37, 38], [8, 12, 28, 36, 144]) | 13 => ([2, 3, 7, 8, 9, 11, 12, 13, 36, 37, 38, 58, 59], [8, 12, 28, 36, 44, 48, 52, 144]) | 16 => ([2, 3, 7, 8, 9, 11, 12, 13, 14, 36, 37, 38, 58, 59, 67, 68], [8, 12, 28, 36, 44, 48, 52, 144]) | 20 => ([2, 3, 7, 8, 9, 11, 12, 13, 14, 15, 16, 36, 37, 38, 58, 59, 67, 68, 78, 79], [8, 12, 28, 36, 44, 48, 52, 64, 144]) | 25 => ([2, 3, 7, 8, 9, 11, 12, 13, 14, 15, 16, 36, 37, 38, 58, 59, 67, 68, 110, 111], [8, 12, 28, 36, 44, 48, 52, 64, 144]) | _ => ([], [])
noncomputable def fin := finK cfg.c sig [.tmp 4, .tmp 5]
noncomputable def F (d : SF × SF × Unit) : Option ((Int × Int × Unit) × (Unit)) := anyK (a9W cfg fin (bd f8) (a6v sig.ps d 156))
variable (k : Nat) (i12 i13 i14 : Int) (x15 : LL) (i16 : Int) (x17 : LI) (x18 : LM) (x19 : LL) (i20 : Int) (x21 : LI) (x22 : LM) (x23 : LI) (x24 : LL) (x25 : List (Int × Int × Int))
noncomputable def l9 : Option ((Int × Int × Unit) × (Unit)) := Vm.runT cfg fin k [.inLoop (sub [1, 1, 1, 1, 1, 0, 1, 0, 0] (bd f8)), .inBlock 0, .code (sub [1, 1, 1, 1, 1, 1] (bd f8))] ⟨[dD, dD, .ref 8 (.root 0), .ref 12 (.root 0), dD, dD, dD, .view 28 (.root 0) 1 false, vI i12, .view 36 (.root 0) 1 false, dD, dD, dD, dD, dD, dD, dD, dD, dD, dD, dD, dD, dD, dD, dD, dD, dD, dD, dD, dD, dD, dD, dD, dD, dD, dD, .view 144 (.root 0) 1 false, vI i13, vI i14] ++ a8d 117, [(8, ⟨true, [cQ x15, cI i16, cL x17, ⟨(.sl TMatrix), .sh, x18⟩]⟩), (12, ⟨true, [cQ x19, cI i20, cL x21, ⟨(.sl TMatrix), .sh, x22⟩]⟩), (28, ⟨false, [dL x23]⟩), (36, ⟨false, [dQ x24]⟩), (144, ⟨false, [⟨(.sl TEdge), .deep, x25⟩]⟩)]⟩
variable (i26 i27 i28 i29 i30 : Int) (x31 : LL) (i32 : Int) (x33 : LI) (x34 : LM) (x35 : LL) (i36 : Int) (x37 : LI) (x38 : LM) (x39 : LI) (x40 : LL) (i41 i42 i43 i44 i45 i46 : Int) (x47 : LI) (i48 i49 i50 : Int) (x51 : LI) (x52 : List (Int × Int × Int))
noncomputable def l13 : Option ((Int × Int × Unit) × (Unit)) := Vm.runT cfg fin k [.inLoop (sub [1, 1, 1, 1, 1, 0, 1, 0, 0, 1, 1, 0, 0, 1, 1, 1, 0, 0] (bd f8)), .inBlock 2, .inBlock 1, .code (sub [1, 1, 1, 1, 1, 0, 1, 0, 0, 1, 1, 1] (bd f8)), .inLoop (sub [1, 1, 1, 1, 1, 0, 1, 0, 0] (bd f8)), .inBlock 0, .code (sub [1, 1, 1, 1, 1, 1] (bd f8))] ⟨[dD, dD, .ref 8 (.root 0), .ref 12 (.root 0), dD, dD, dD, .view 28 (.root 0) 1 false, vI i26, .view 36 (.root 0) 1 false, dD, .ref 44 (.root 0), .ref 48 (.root 0), .ref 52 (.root 0), dD, dD, dD, dD, dD, dD, dD, dD, dD, dD, dD, dD, dD, dD, dD, dD, dD, dD, dD, dD, dD, dD, .view 144 (.root 0) 1 false, vI i27, vI i28, dD, dD, dD, dD, dD, dD, dD, dD, dD, dD, dD, dD, dD, dD, dD, dD, dD, dD, dD, vI i29, vI i30] ++ a8d 96, [(8, ⟨true, [cQ x31, cI i32, cL x33, ⟨(.sl TMatrix), .sh, x34⟩]⟩), (12, ⟨true, [cQ x35, cI i36, cL x37, ⟨(.sl TMatrix), .sh, x38⟩]⟩), (28, ⟨false, [dL x39]⟩), (36, ⟨false, [dQ x40]⟩), (44, ⟨true, [cI i41, cI i42, cI i43]⟩), (48, ⟨true, [cI i44, cI i45, cI i46, cL x47]⟩), (52, ⟨true, [cI i48, cI i49, cI i50, cL x51]⟩), (144, ⟨false, [⟨(.sl TEdge), .deep, x52⟩]⟩)]⟩
variable (i53 i54 i55 i56 i57 i58 i59 i60 : Int) (x61 : LL) (i62 : Int) (x63 : LI) (x64 : LM) (x65 : LL) (i66 : Int) (x67 : LI) (x68 : LM) (x69 : LI) (x70 : LL) (i71 i72 i73 i74 i75 i76 : Int) (x77 : LI) (i78 i79 i80 : Int) (x81 : LI) (x82 : List (Int × Int × Int))
noncomputable def l16 : Option ((Int × Int × Unit) × (Unit)) := Vm.runT cfg fin k [.inLoop (sub [1, 1, 1, 1, 1, 0, 1, 0, 0, 1, 1, 0, 0, 1, 1, 1, 0, 0, 1, 1, 0, 0, 1, 1, 0, 0] (bd f8)), .inBlock 4, .inBlock 3, .code (sub [1, 1, 1, 1, 1, 0, 1, 0, 0, 1, 1, 0, 0, 1, 1, 1, 0, 0, 1, 1, 1] (bd f8)), .inLoop (sub [1, 1, 1, 1, 1, 0, 1, 0, 0, 1, 1, 0, 0, 1, 1, 1, 0, 0] (bd f8)), .inBlock 2, .inBlock 1, .code (sub [1, 1, 1, 1, 1, 0, 1, 0, 0, 1, 1, 1] (bd f8)), .inLoop (sub [1, 1, 1, 1, 1, 0, 1, 0, 0] (bd f8)), .inBlock 0, .code (sub [1, 1, 1, 1, 1, 1] (bd f8))] ⟨[dD, dD, .ref 8 (.root 0), .ref 12 (.root 0), dD, dD, dD, .view 28 (.root 0) 1 false, vI i53, .view 36 (.root 0) 1 false, dD, .ref 44 (.root 0), .ref 48 (.root 0), .ref 52 (.root 0), vI i54, dD, dD, dD, dD, dD, dD, dD, dD, dD, dD, dD, dD, dD, dD, dD, dD, dD, dD, dD, dD, dD, .view 144 (.root 0) 1 false, vI i55, vI i56, dD, dD, dD, dD, dD, dD, dD, dD, dD, dD, dD, dD, dD, dD, dD, dD, dD, dD, dD, vI i57, vI i58, dD, dD, dD, dD, dD, dD, dD, vI i59, vI i60] ++ a8d 87, [(8, ⟨true, [cQ x61, cI i62, cL x63, ⟨(.sl TMatrix), .sh, x64⟩]⟩), (12, ⟨true, [cQ x65, cI i66, cL x67, ⟨(.sl TMatrix), .sh, x68⟩]⟩), (28, ⟨false, [dL x69]⟩), (36, ⟨false, [dQ x70]⟩), (44, ⟨true, [cI i71, cI i72, cI i73]⟩), (48, ⟨true, [cI i74, cI i75, cI i76, cL x77]⟩), (52, ⟨true, [cI i78, cI i79, cI i80, cL x81]⟩), (144, ⟨false, [⟨(.sl TEdge), .deep, x82⟩]⟩)]⟩
variable (i83 i84 i85 i86 i87 i88 i89 i90 i91 i92 i93 : Int) (x94 : LL) (i95 : Int) (x96 : LI) (x97 : LM) (x98 : LL) (i99 : Int) (x100 : LI) (x101 : LM) (x102 : LI) (x103 : LL) (i104 i105 i106 i107 i108 i109 : Int) (x110 : LI) (i111 i112 i113 : Int) (x114 x115 : LI) (x116 : List (Int × Int × Int))
noncomputable def l20 : Option ((Int × Int × Unit) × (Unit)) := Vm.runT cfg fin k [.inLoop (sub [1, 1, 1, 1, 1, 0, 1, 0, 0, 1, 1, 0, 0, 1, 1, 1, 0, 0, 1, 1, 0, 0, 1, 1, 0, 0, 1, 1, 0, 0, 1, 1, 0, 1, 0, 0] (bd f8)), .inBlock 6, .code (sub [1, 1, 1, 1, 1, 0, 1, 0, 0, 1, 1, 0, 0, 1, 1, 1, 0, 0, 1, 1, 0, 0, 1, 1, 0, 0, 1, 1, 0, 0, 1, 1, 1] (bd f8)), .inBlock 5, .code (sub [1, 1, 1, 1, 1, 0, 1, 0, 0, 1, 1, 0, 0, 1, 1, 1, 0, 0, 1, 1, 0, 0, 1, 1, 0, 0, 1, 1, 1] (bd f8)), .inLoop (sub [1, 1, 1, 1, 1, 0, 1, 0, 0, 1, 1, 0, 0, 1, 1, 1, 0, 0, 1, 1, 0, 0, 1, 1, 0, 0] (bd f8)), .inBlock 4, .inBlock 3, .code (sub [1, 1, 1, 1, 1, 0, 1, 0, 0, 1, 1, 0, 0, 1, 1, 1, 0, 0, 1, 1, 1] (bd f8)), .inLoop (sub [1, 1, 1, 1, 1, 0, 1, 0, 0, 1, 1, 0, 0, 1, 1, 1, 0, 0] (bd f8)), .inBlock 2, .inBlock 1, .code (sub [1, 1, 1, 1, 1, 0, 1, 0, 0, 1, 1, 1] (bd f8)), .inLoop (sub [1, 1, 1, 1, 1, 0, 1, 0, 0] (bd f8)), .inBlock 0, .code (sub [1, 1, 1, 1, 1, 1] (bd f8))] ⟨[dD, dD, .ref 8 (.root 0), .ref 12 (.root 0), dD, dD, dD, .view 28 (.root 0) 1 false, vI i83, .view 36 (.root 0) 1 false, dD, .ref 44 (.root 0), .ref 48 (.root 0), .ref 52 (.root 0), vI i84, vI i85, .view 64 (.root 0) 1 false, dD, dD, dD, dD, dD, dD, dD, dD, dD, dD, dD, dD, dD, dD, dD, dD, dD, dD, dD, .view 144 (.root 0) 1 false, vI i86, vI i87, dD, dD, dD, dD, dD, dD, dD, dD, dD, dD, dD, dD, dD, dD, dD, dD, dD, dD, dD, vI i88, vI i89, dD, dD, dD, dD, dD, dD, dD, vI i90, vI i91, dD, dD, dD, dD, dD, dD, dD, dD, dD, vI i92, vI i93] ++ a8d 76, [(8, ⟨true, [cQ x94, cI i95, cL x96, ⟨(.sl TMatrix), .sh, x97⟩]⟩), (12, ⟨true, [cQ x98, cI i99, cL x100, ⟨(.sl TMatrix), .sh, x101⟩]⟩), (28, ⟨false, [dL x102]⟩), (36, ⟨false, [dQ x103]⟩), (44, ⟨true, [cI i104, cI i105, cI i106]⟩), (48, ⟨true, [cI i107, cI i108, cI i109, cL x110]⟩), (52, ⟨true, [cI i111, cI i112, cI i113, cL x114]⟩), (64, ⟨false, [dL x115]⟩), (144, ⟨false, [⟨(.sl TEdge), .deep, x116⟩]⟩)]⟩
variable (i119 i120 i121 i122 i123 i124 i125 i126 i127 i128 i129 : Int) (x130 : LL) (i131 : Int) (x132 : LI) (x133 : LM) (x134 : LL) (i135 : Int) (x136 : LI) (x137 : LM) (x138 : LI) (x139 : LL) (i140 i141 i142 i143 i144 i145 : Int) (x146 : LI) (i147 i148 i149 : Int) (x150 x151 : LI) (x152 : List (Int × Int × Int))
noncomputable def l25 : Option ((Int × Int × Unit) × (Unit)) := Vm.runT cfg fin k [.inLoop (sub [1, 1, 1, 1, 1, 0, 1, 0, 0, 1, 1, 0, 0, 1, 1, 1, 0, 0, 1, 1, 0, 0, 1, 1, 0, 0, 1, 1, 0, 0, 1, 1, 1, 0, 1, 0, 0] (bd f8)), .inBlock 8, .code (sub [1, 1, 1, 1, 1, 0, 1, 0, 0, 1, 1, 0, 0, 1, 1, 1, 0, 0, 1, 1, 0, 0, 1, 1, 0, 0, 1, 1, 0, 0, 1, 1, 1, 1] (bd f8)), .inBlock 5, .code (sub [1, 1, 1, 1, 1, 0, 1, 0, 0, 1, 1, 0, 0, 1, 1, 1, 0, 0, 1, 1, 0, 0, 1, 1, 0, 0, 1, 1, 1] (bd f8)), .inLoop (sub [1, 1, 1, 1, 1, 0, 1, 0, 0, 1, 1, 0, 0, 1, 1, 1, 0, 0, 1, 1, 0, 0, 1, 1, 0, 0] (bd f8)), .inBlock 4, .inBlock 3, .code (sub [1, 1, 1, 1, 1, 0, 1, 0, 0, 1, 1, 0, 0, 1, 1, 1, 0, 0, 1, 1, 1] (bd f8)), .inLoop (sub [1, 1, 1, 1, 1, 0, 1, 0, 0, 1, 1, 0, 0, 1, 1, 1, 0, 0] (bd f8)), .inBlock 2, .inBlock 1, .code (sub [1, 1, 1, 1, 1, 0, 1, 0, 0, 1, 1, 1] (bd f8)), .inLoop (sub [1, 1, 1, 1, 1, 0, 1, 0, 0] (bd f8)), .inBlock 0, .code (sub [1, 1, 1, 1, 1, 1] (bd f8))] ⟨[dD, dD, .ref 8 (.root 0), .ref 12 (.root 0), dD, dD, dD, .view 28 (.root 0) 1 false, vI i119, .view 36 (.root 0) 1 false, dD, .ref 44 (.root 0), .ref 48 (.root 0), .ref 52 (.root 0), vI i120, vI i121, .view 64 (.root 0) 1 false, dD, dD, dD, dD, dD, dD, dD, dD, dD, dD, dD, dD, dD, dD, dD, dD, dD, dD, dD, .view 144 (.root 0) 1 false, vI i122, vI i123, dD, dD, dD, dD, dD, dD, dD, dD, dD, dD, dD, dD, dD, dD, dD, dD, dD, dD, dD, vI i124, vI i125, dD, dD, dD, dD, dD, dD, dD, vI i126, vI i127, dD, dD, dD, dD, dD, dD, dD, dD, dD, dD, dD, dD, dD, dD, dD, dD, dD, dD, dD, dD, dD, dD, dD, dD, dD, dD, dD, dD, dD, dD, dD, dD, dD, dD, dD, dD, dD, dD, dD, dD, dD, vI i128, vI i129] ++ a8d 44, [(8, ⟨true, [cQ x130, cI i131, cL x132, ⟨(.sl TMatrix), .sh, x133⟩]⟩), (12, ⟨true, [cQ x134, cI i135, cL x136, ⟨(.sl TMatrix), .sh, x137⟩]⟩), (28, ⟨false, [dL x138]⟩), (36, ⟨false, [dQ x139]⟩), (44, ⟨true, [cI i140, cI i141, cI i142]⟩), (48, ⟨true, [cI i143, cI i144, cI i145, cL x146]⟩), (52, ⟨true, [cI i147, cI i148, cI i149, cL x150]⟩), (64, ⟨false, [dL x151]⟩), (144, ⟨false, [⟨(.sl TEdge), .deep, x152⟩]⟩)]⟩
theorem l9_eq : l9 (k + 1) i12 i13 i14 x15 i16 x17 x18 x19 i20 x21 x22 x23 x24 x25 = if (decide (i14 < i13)) = true then if 0 ≤ i14 ∧ i14 < (x25.length : Int) then if 0 ≤ i14 ∧ i14 < (x18.length : Int) then if 0 ≤ i14 ∧ i14 < (x22.length : Int) then both ( if 0 ≤ ((x25.getD i14.toNat (0, 0, 0)).1 : Int) ∧ ((x25.getD i14.toNat (0, 0, 0)).1 : Int) < (x21.length : Int) then l13 k i12 i13 i14 (x21.getD ((x25.getD i14.toNat (0, 0, 0)).1 : Int).toNat 0) (0 : Int) x15 i16 x17 x18 x19 i20 x21 x22 x23 x24 ((x25.getD i14.toNat (0, 0, 0)).1 : Int) (((x25.getD i14.toNat (0, 0, 0)).2).1 : Int) (((x25.getD i14.toNat (0, 0, 0)).2).2 : Int) ((x18.getD i14.toNat (0, 0, 0, ([] : LI))).1) (((x18.getD i14.toNat (0, 0, 0, ([] : LI))).2).1) ((((x18.getD i14.toNat (0, 0, 0, ([] : LI))).2).2).1) ((((x18.getD i14.toNat (0, 0, 0, ([] : LI))).2).2).2) ((x22.getD i14.toNat (0, 0, 0, ([] : LI))).1) (((x22.getD i14.toNat (0, 0, 0, ([] : LI))).2).1) ((((x22.getD i14.toNat (0, 0, 0, ([] : LI))).2).2).1) ((((x22.getD i14.toNat (0, 0, 0, ([] : LI))).2).2).2) x25 else none ) ( both ( if 0 ≤ ((x25.getD i14.toNat (0, 0, 0)).1 : Int) ∧ ((x25.getD i14.toNat (0, 0, 0)).1 : Int) < (x21.length : Int) then l13 k i12 i13 i14 (x21.getD ((x25.getD i14.toNat (0, 0, 0)).1 : Int).toNat 0) (0 : Int) x15 i16 x17 x18 x19 i20 x21 x22 x23 x24 ((x25.getD i14.toNat (0, 0, 0)).1 : Int) (((x25.getD i14.toNat (0, 0, 0)).2).1 : Int) (((x25.getD i14.toNat (0, 0, 0)).2).2 : Int) ((x18.getD i14.toNat (0, 0, 0, ([] : LI))).1) (((x18.getD i14.toNat (0, 0, 0, ([] : LI))).2).1) ((((x18.getD i14.toNat (0, 0, 0, ([] : LI))).2).2).1) ((((x18.getD i14.toNat (0, 0, 0, ([] : LI))).2).2).2) ((x22.getD i14.toNat (0, 0, 0, ([] : LI))).1) (((x22.getD i14.toNat (0, 0, 0, ([] : LI))).2).1) ((((x22.getD i14.toNat (0, 0, 0, ([] : LI))).2).2).1) ((((x22.getD i14.toNat (0, 0, 0, ([] : LI))).2).2).2) x25 else none ) ( both ( if 0 ≤ i14 ∧ i14 < (x22.length : Int) then if 0 ≤ ((x25.getD i14.toNat (0, 0, 0)).1 : Int) ∧ ((x25.getD i14.toNat (0, 0, 0)).1 : Int) < (x21.length : Int) then l13 k i12 i13 i14 (x21.getD ((x25.getD i14.toNat (0, 0, 0)).1 : Int).toNat 0) (0 : Int) x15 i16 x17 x18 x19 i20 x21 x22 x23 x24 ((x25.getD i14.toNat (0, 0, 0)).1 : Int) (((x25.getD i14.toNat (0, 0, 0)).2).1 : Int) (((x25.getD i14.toNat (0, 0, 0)).2).2 : Int) ((x18.getD i14.toNat (0, 0, 0, ([] : LI))).1) (((x18.getD i14.toNat (0, 0, 0, ([] : LI))).2).1) ((((x18.getD i14.toNat (0, 0, 0, ([] : LI))).2).2).1) ((((x18.getD i14.toNat (0, 0, 0, ([] : LI))).2).2).2) ((x22.getD i14.toNat (0, 0, 0, ([] : LI))).1) (((x22.getD i14.toNat (0, 0, 0, ([] : LI))).2).1) ((((x22.getD i14.toNat (0, 0, 0, ([] : LI))).2).2).1) ((((x22.getD i14.toNat (0, 0, 0, ([] : LI))).2).2).2) x25 else none else none ) ( both ( if 0 ≤ i14 ∧ i14 < (x22.length : Int) then if 0 ≤ ((x25.getD i14.toNat (0, 0, 0)).1 : Int) ∧ ((x25.getD i14.toNat (0, 0, 0)).1 : Int) < (x21.length : Int) then l13 k i12 i13 i14 (x21.getD ((x25.getD i14.toNat (0, 0, 0)).1 : Int).toNat 0) (0 : Int) x15 i16 x17 x18 x19 i20 x21 x22 x23 x24 ((x25.getD i14.toNat (0, 0, 0)).1 : Int) (((x25.getD i14.toNat (0, 0, 0)).2).1 : Int) (((x25.getD i14.toNat (0, 0, 0)).2).2 : Int) ((x18.getD i14.toNat (0, 0, 0, ([] : LI))).1) (((x18.getD i14.toNat (0, 0, 0, ([] : LI))).2).1) ((((x18.getD i14.toNat (0, 0, 0, ([] : LI))).2).2).1) ((((x18.getD i14.toNat (0, 0, 0, ([] : LI))).2).2).2) ((x22.getD i14.toNat (0, 0, 0, ([] : LI))).1) (((x22.getD i14.toNat (0, 0, 0, ([] : LI))).2).1) ((((x22.getD i14.toNat (0, 0, 0, ([] : LI))).2).2).1) ((((x22.getD i14.toNat (0, 0, 0, ([] : LI))).2).2).2) x25 else none else none ) ( if 0 ≤ i14 ∧ i14 < (x22.length : Int) then if 0 ≤ ((x25.getD i14.toNat (0, 0, 0)).1 : Int) ∧ ((x25.getD i14.toNat (0, 0, 0)).1 : Int) < (x21.length : Int) then l13 k i12 i13 i14 (x21.getD ((x25.getD i14.toNat (0, 0, 0)).1 : Int).toNat 0) (0 : Int) x15 i16 x17 x18 x19 i20 x21 x22 x23 x24 ((x25.getD i14.toNat (0, 0, 0)).1 : Int) (((x25.getD i14.toNat (0, 0, 0)).2).1 : Int) (((x25.getD i14.toNat (0, 0, 0)).2).2 : Int) ((x18.getD i14.toNat (0, 0, 0, ([] : LI))).1) (((x18.getD i14.toNat (0, 0, 0, ([] : LI))).2).1) ((((x18.getD i14.toNat (0, 0, 0, ([] : LI))).2).2).1) ((((x18.getD i14.toNat (0, 0, 0, ([] : LI))).2).2).2) ((x22.getD i14.toNat (0, 0, 0, ([] : LI))).1) (((x22.getD i14.toNat (0, 0, 0, ([] : LI))).2).1) ((((x22.getD i14.toNat (0, 0, 0, ([] : LI))).2).2).1) ((((x22.getD i14.toNat (0, 0, 0, ([] : LI))).2).2).2) x25 else none else none ) ) ) ) else none else none else none else (Am1.F (i16, i12, x24, ())).bind fun r156 => (Ak4.F (r156.1.1, ())).bind fun r157 => some ((IntKind.i64.wrap (i12 - r157.1.1), ((0 : Int), ())), ()) := by kernel_rfl
theorem l13_eq : l13 (k + 1) i26 i27 i28 i29 i30 x31 i32 x33 x34 x35 i36 x37 x38 x39 x40 i41 i42 i43 i44 i45 i46 x47 i48 i49 i50 x51 x52 = if (decide (i30 < i29)) = true then if 0 ≤ i43 ∧ i43 < (x33.length : Int) then l16 k i26 i30 i27 i28 i29 i30 (x33.getD i43.toNat 0 : Int) (0 : Int) x31 i32 x33 x34 x35 i36 x37 x38 x39 x40 i41 i42 i43 i44 i45 i46 x47 i48 i49 i50 x51 x52 else none else l9 k i26 i27 (IntKind.i64.wrap (i28 + 1)) x31 i32 x33 x34 x35 i36 x37 x38 x39 x40 x52 := by kernel_rfl
theorem l16_eq : l16 (k + 1) i53 i54 i55 i56 i57 i58 i59 i60 x61 i62 x63 x64 x65 i66 x67 x68 x69 x70 i71 i72 i73 i74 i75 i76 x77 i78 i79 i80 x81 x82 = if (decide (i60 < i59)) = true then if 0 ≤ i53 ∧ i53 ≤ (bigN : Int) then if 0 ≤ i73 ∧ i73 < (x67.length : Int) then l20 k i53 i54 i60 i55 i56 i57 i58 i59 i60 (x67.getD i73.toNat 0 : Int) (0 : Int) x61 i62 x63 x64 x65 i66 x67 x68 x69 x70 i71 i72 i73 i74 i75 i76 x77 i78 i79 i80 x81 (List.replicate i53.toNat (0 : Int)) x82 else none else none else l13 k i53 i55 i56 i57 (IntKind.i64.wrap (i58 + 1)) x61 i62 x63 x64 x65 i66 x67 x68 x69 x70 i71 i72 i73 i74 i75 i76 x77 i78 i79 i80 x81 x82 := by kernel_rfl
theorem l20_eq : l20 (k + 1) i83 i84 i85 i86 i87 i88 i89 i90 i91 i92 i93 x94 i95 x96 x97 x98 i99 x100 x101 x102 x103 i104 i105 i106 i107 i108 i109 x110 i111 i112 i113 x114 x115 x116 = if (decide (i93 < i92)) = true then if 0 ≤ i106 ∧ i106 < (x102.length : Int) then if 0 ≤ i106 ∧ i106 < (x96.length : Int) then (Ad3.F ((i111, (i112, (i113, x114))), i84, i93, ())).bind fun r117 => if 0 ≤ (IntKind.i64.wrap ((IntKind.i64.wrap ((x102.getD i106.toNat 0 : Int) + (IntKind.i64.wrap (i93 * (x96.getD i106.toNat 0 : Int))))) + i85)) ∧ (IntKind.i64.wrap ((IntKind.i64.wrap ((x102.getD i106.toNat 0 : Int) + (IntKind.i64.wrap (i93 * (x96.getD i106.toNat 0 : Int))))) + i85)) < (x115.length : Int) then let y118 : LI := x115.set (IntKind.i64.wrap ((IntKind.i64.wrap ((x102.getD i106.toNat 0 : Int) + (IntKind.i64.wrap (i93 * (x96.getD i106.toNat 0 : Int))))) + i85)).toNat r117.1.1; l20 k i83 i84 i85 i86 i87 i88 i89 i90 i91 i92 (IntKind.i64.wrap (i93 + 1)) x94 i95 x96 x97 x98 i99 x100 x101 x102 x103 i104 i105 i106 i107 i108 i109 x110 i111 i112 i113 x114 y118 x116 else none else none else none else if 0 ≤ i104 ∧ i104 < (x96.length : Int) then l25 k i83 i84 i85 i86 i87 i88 i89 i90 i91 (x96.getD i104.toNat 0 : Int) (0 : Int) x94 i95 x96 x97 x98 i99 x100 x101 x102 x103 i104 i105 i106 i107 i108 i109 x110 i111 i112 i113 x114 x115 x116 else none := by kernel_rfl
theorem l25_eq : l25 (k + 1) i119 i120 i121 i122 i123 i124 i125 i126 i127 i128 i129 x130 i131 x132 x133 x134 i135 x136 x137 x138 x139 i140 i141 i142 i143 i144 i145 x146 i147 i148 i149 x150 x151 x152 = if (decide (i129 < i128)) = true then if 0 ≤ i140 ∧ i140 < (x138.length : Int) then if 0 ≤ i140 ∧ i140 < (x132.length : Int) then (Ad3.F ((i143, (i144, (i145, x146))), i129, i121, ())).bind fun r153 => (Ae0.F (IntKind.i64.wrap (0 - r153.1.1), i131, ())).bind fun r154 => if 0 ≤ (IntKind.i64.wrap ((IntKind.i64.wrap ((x138.getD i140.toNat 0 : Int) + (IntKind.i64.wrap (i120 * (x132.getD i140.toNat 0 : Int))))) + i129)) ∧ (IntKind.i64.wrap ((IntKind.i64.wrap ((x138.getD i140.toNat 0 : Int) + (IntKind.i64.wrap (i120 * (x132.getD i140.toNat 0 : Int))))) + i129)) < (x151.length : Int) then let y155 : LI := x151.set (IntKind.i64.wrap ((IntKind.i64.wrap ((x138.getD i140.toNat 0 : Int) + (IntKind.i64.wrap (i120 * (x132.getD i140.toNat 0 : Int))))) + i129)).toNat r154.1.1; l25 k i119 i120 i121 i122 i123 i124 i125 i126 i127 i128 (IntKind.i64.wrap (i129 + 1)) x130 i131 x132 x133 x134 i135 x136 x137 x138 x139 i140 i141 i142 i143 i144 i145 x146 i147 i148 i149 x150 y155 x152 else none else none else none else if x139.length + [x151].length ≤ bigA then l16 k i119 i120 i122 i123 i124 i125 i126 (IntKind.i64.wrap (i127 + 1)) x130 i131 x132 x133 x134 i135 x136 x137 x138 (x139 ++ [x151]) i140 i141 i142 i143 i144 i145 x146 i147 i148 i149 x150 x152 else none := by kernel_rfl
variable (toArray_1 : LL) (toArray_2 : Int) (toArray_3 : LI) (toArray_4 : LM) (a_5 : LL) (a_6 : Int) (a_7 : LI) (a_8 : LM)
noncomputable def T : Option ((Int × Int × Unit) × (Unit)) := (Ai6.F ([(toArray_1, (toArray_2, (toArray_3, toArray_4))), (a_5, (a_6, (a_7, a_8)))], ())).bind fun r9 => if (r9.1.1 != 0) = true then some (((0 : Int), (r9.1.1, ())), ()) else (Ag8.F ((toArray_1, (toArray_2, (toArray_3, toArray_4))), (a_5, (a_6, (a_7, a_8))), ())).bind fun r10 => if (decide (r10.1.2.1 > 60)) = true then some (((0 : Int), ((5 : Int), ())), ()) else (Ab8.F (toArray_1, ())).bind fun r11 => l9 k r10.1.2.1 (r11.1.1.length : Int) (0 : Int) toArray_1 toArray_2 toArray_3 toArray_4 a_5 a_6 a_7 a_8 r10.1.1 ([]) r11.1.1
theorem of {r} (h : Ev (fun k => T k toArray_1 toArray_2 toArray_3 toArray_4 a_5 a_6 a_7 a_8) r) : F ((toArray_1, (toArray_2, (toArray_3, toArray_4))), (a_5, (a_6, (a_7, a_8))), ()) = some r := Ev.run (fun k => by kernel_rfl) h
theorem S : a3D prog ⟨8, sig, F⟩ := sound_k (res := [.tmp 4, .tmp 5]) func8 (cok (cM ⟨Ai6.S, cM ⟨Ag8.S, cM ⟨Ab8.S, cM ⟨Ad3.S, cM ⟨Ae0.S, cM ⟨Ak4.S, cM ⟨Am1.S, nM⟩⟩⟩⟩⟩⟩⟩))
end Aa2
namespace Ab2
noncomputable def sig : Sig := ⟨[pL, pL], [oB]⟩
noncomputable def cfg : Cfg := cl (cx []) fun id => match id with | 4 => ([0, 1, 5], []) | _ => ([], [])
noncomputable def fin := finK cfg.c sig [.tmp 4]
noncomputable def F (d : LI × LI × Unit) : OB := anyK (a9W cfg fin (bd f31) (a6v sig.ps d 26))
variable (k : Nat) (x3 x4 : LI) (i5 : Int)
noncomputable def l4 : OB := Vm.runT cfg fin k [.inLoop (sub [1, 1, 0, 1, 0, 0] (bd f31)), .inBlock 0, .code (sub [1, 1, 1] (bd f31))] ⟨[vL x3, vL x4, dD, dD, dD, vI i5] ++ a8d 20, []⟩
theorem l4_eq : l4 (k + 1) x3 x4 i5 = if (decide (i5 < (x3.length : Int))) = true then if 0 ≤ i5 ∧ i5 < (x3.length : Int) then if 0 ≤ i5 ∧ i5 < (x4.length : Int) then if ((x3.getD i5.toNat 0 : Int) != (x4.getD i5.toNat 0 : Int)) = true then some ((false, ()), ()) else l4 k x3 x4 (IntKind.i64.wrap (i5 + 1)) else none else none else some ((true, ()), ()) := by kernel_rfl
variable (a_1 b_2 : LI)
noncomputable def T : OB := if ((a_1.length : Int) != (b_2.length : Int)) = true then some ((false, ()), ()) else l4 k a_1 b_2 (0 : Int)
theorem of {r} (h : Ev (fun k => T k a_1 b_2) r) : F (a_1, b_2, ()) = some r := Ev.run (fun k => by kernel_rfl) h
theorem S : a3D prog ⟨31, sig, F⟩ := sound_k (res := [.tmp 4]) func31 (cok nM)
end Ab2
namespace Ak7
noncomputable def sig : Sig := ⟨[pM, pM], [oB]⟩
noncomputable def cfg : Cfg := cf (cx [⟨31, Ab2.sig, Ab2.F⟩])
noncomputable def fin := finK cfg.c sig [.tmp 4]
noncomputable def F (d : MX × MX × Unit) : OB := anyK (a9W cfg fin (bd f43) (a6v sig.ps d 26))
variable (a_1 a_2 a_3 : Int) (a_4 : LI) (b_5 b_6 b_7 : Int) (b_8 : LI)
noncomputable def T : OB := if (a_1 != b_5) = true then some ((false, ()), ()) else if (a_2 != b_6) = true then some ((false, ()), ()) else if (a_3 != b_7) = true then some ((false, ()), ()) else (Ab2.F (a_4, b_8, ())).bind fun r9 => if (!r9.1.1) = true then some ((false, ()), ()) else some ((true, ()), ())
theorem eq : F ((a_1, (a_2, (a_3, a_4))), (b_5, (b_6, (b_7, b_8))), ()) = T a_1 a_2 a_3 a_4 b_5 b_6 b_7 b_8 := eq_any fun k => by kernel_rfl
theorem S : a3D prog ⟨43, sig, F⟩ := sound_k (res := [.tmp 4]) func43 (cok (cM ⟨Ab2.S, nM⟩))
end Ak7
namespace Af1
noncomputable def sig : Sig := ⟨[.val false (.sl TMatrix), .val false (.sl TMatrix)], [oB]⟩
noncomputable def cfg : Cfg := cl (cx [⟨43, Ak7.sig, Ak7.F⟩]) fun id => match id with | 4 => ([0, 1, 5], []) | _ => ([], [])
noncomputable def fin := finK cfg.c sig [.tmp 4]
noncomputable def F (d : LM × LM × Unit) : OB := anyK (a9W cfg fin (bd f14) (a6v sig.ps d 27))
variable (k : Nat) (x3 x4 : LM) (i5 : Int)
noncomputable def l4 : OB := Vm.runT cfg fin k [.inLoop (sub [1, 1, 0, 1, 0, 0] (bd f14)), .inBlock 0, .code (sub [1, 1, 1] (bd f14))] ⟨[.val false [⟨(.sl TMatrix), .sh, x3⟩], .val false [⟨(.sl TMatrix), .sh, x4⟩], dD, dD, dD, vI i5] ++ a8d 21, []⟩
theorem l4_eq : l4 (k + 1) x3 x4 i5 = if (decide (i5 < (x3.length : Int))) = true then if 0 ≤ i5 ∧ i5 < (x3.length : Int) then if 0 ≤ i5 ∧ i5 < (x4.length : Int) then (Ak7.F (x3.getD i5.toNat (0, 0, 0, ([] : LI)), x4.getD i5.toNat (0, 0, 0, ([] : LI)), ())).bind fun r6 => if (!r6.1.1) = true then some ((false, ()), ()) else l4 k x3 x4 (IntKind.i64.wrap (i5 + 1)) else none else none else some ((true, ()), ()) := by kernel_rfl
variable (a_1 b_2 : LM)
noncomputable def T : OB := if ((a_1.length : Int) != (b_2.length : Int)) = true then some ((false, ()), ()) else l4 k a_1 b_2 (0 : Int)
theorem of {r} (h : Ev (fun k => T k a_1 b_2) r) : F (a_1, b_2, ()) = some r := Ev.run (fun k => by kernel_rfl) h
theorem S : a3D prog ⟨14, sig, F⟩ := sound_k (res := [.tmp 4]) func14 (cok (cM ⟨Ak7.S, nM⟩))
end Af1
namespace Af0
noncomputable def sig : Sig := ⟨[pQ, pQ], [oB]⟩
noncomputable def cfg : Cfg := cl (cx [⟨31, Ab2.sig, Ab2.F⟩]) fun id => match id with | 4 => ([0, 1, 5], []) | _ => ([], [])
noncomputable def fin := finK cfg.c sig [.tmp 4]
noncomputable def F (d : LL × LL × Unit) : OB := anyK (a9W cfg fin (bd f65) (a6v sig.ps d 27))
variable (k : Nat) (x3 x4 : LL) (i5 : Int)
noncomputable def l4 : OB := Vm.runT cfg fin k [.inLoop (sub [1, 1, 0, 1, 0, 0] (bd f65)), .inBlock 0, .code (sub [1, 1, 1] (bd f65))] ⟨[vQ x3, vQ x4, dD, dD, dD, vI i5] ++ a8d 21, []⟩
theorem l4_eq : l4 (k + 1) x3 x4 i5 = if (decide (i5 < (x3.length : Int))) = true then if 0 ≤ i5 ∧ i5 < (x3.length : Int) then if 0 ≤ i5 ∧ i5 < (x4.length : Int) then (Ab2.F (x3.getD i5.toNat ([] : LI), x4.getD i5.toNat ([] : LI), ())).bind fun r6 => if (!r6.1.1) = true then some ((false, ()), ()) else l4 k x3 x4 (IntKind.i64.wrap (i5 + 1)) else none else none else some ((true, ()), ()) := by kernel_rfl
variable (a_1 b_2 : LL)
noncomputable def T : OB := if ((a_1.length : Int) != (b_2.length : Int)) = true then some ((false, ()), ()) else l4 k a_1 b_2 (0 : Int)
theorem of {r} (h : Ev (fun k => T k a_1 b_2) r) : F (a_1, b_2, ()) = some r := Ev.run (fun k => by kernel_rfl) h
theorem S : a3D prog ⟨65, sig, F⟩ := sound_k (res := [.tmp 4]) func65 (cok (cM ⟨Ab2.S, nM⟩))
end Af0
namespace Ak6
noncomputable def sig : Sig := ⟨[pC, pC], [oB]⟩
noncomputable def cfg : Cfg := cf (cx [⟨65, Af0.sig, Af0.F⟩])
noncomputable def fin := finK cfg.c sig [.tmp 4]
noncomputable def F (d : LL × LL × Unit) : OB := anyK (a9W cfg fin (bd f30) (a6v sig.ps d 11))
variable (a_1 b_2 : LL)
noncomputable def T : OB := (Af0.F (a_1, b_2, ())).bind fun r3 => if (!r3.1.1) = true then some ((false, ()), ()) else some ((true, ()), ())
theorem eq : F (a_1, b_2, ()) = T a_1 b_2 := eq_any fun k => by kernel_rfl
theorem S : a3D prog ⟨30, sig, F⟩ := sound_k (res := [.tmp 4]) func30 (cok (cM ⟨Af0.S, nM⟩))
end Ak6
namespace Ai0
noncomputable def sig : Sig := ⟨[pS, pS], [oB]⟩
noncomputable def cfg : Cfg := cf (cx [⟨14, Af1.sig, Af1.F⟩, ⟨30, Ak6.sig, Ak6.F⟩, ⟨31, Ab2.sig, Ab2.F⟩])
noncomputable def fin := finK cfg.c sig [.tmp 4]
noncomputable def F (d : SF × SF × Unit) : OB := anyK (a9W cfg fin (bd f9) (a6v sig.ps d 28))
variable (a_1 : LL) (a_2 : Int) (a_3 : LI) (a_4 : LM) (b_5 : LL) (b_6 : Int) (b_7 : LI) (b_8 : LM)
noncomputable def T : OB := (Ak6.F (a_1, b_5, ())).bind fun r9 => if (!r9.1.1) = true then some ((false, ()), ()) else if (a_2 != b_6) = true then some ((false, ()), ()) else (Ab2.F (a_3, b_7, ())).bind fun r10 => if (!r10.1.1) = true then some ((false, ()), ()) else (Af1.F (a_4, b_8, ())).bind fun r11 => if (!r11.1.1) = true then some ((false, ()), ()) else some ((true, ()), ())
theorem eq : F ((a_1, (a_2, (a_3, a_4))), (b_5, (b_6, (b_7, b_8))), ()) = T a_1 a_2 a_3 a_4 b_5 b_6 b_7 b_8 := eq_any fun k => by kernel_rfl
theorem S : a3D prog ⟨9, sig, F⟩ := sound_k (res := [.tmp 4]) func9 (cok (cM ⟨Af1.S, cM ⟨Ak6.S, cM ⟨Ab2.S, nM⟩⟩⟩))
end Ai0
namespace Ai8
noncomputable def sig : Sig := ⟨[pS, pS], [oB]⟩
noncomputable def cfg : Cfg := cf (cx [⟨5, Ag1.sig, Ag1.F⟩, ⟨6, Aa1.sig, Aa1.F⟩, ⟨7, Ad5.sig, Ad5.F⟩, ⟨8, Aa2.sig, Aa2.F⟩, ⟨9, Ai0.sig, Ai0.F⟩])
noncomputable def fin := finK cfg.c sig [.tmp 4]
noncomputable def F (d : SF × SF × Unit) : OB := anyK (a9W cfg fin (bd f3) (a6v sig.ps d 58))
variable (aA_1 : LL) (aA_2 : Int) (aA_3 : LI) (aA_4 : LM) (aB_5 : LL) (aB_6 : Int) (aB_7 : LI) (aB_8 : LM)
noncomputable def T : OB := (Ag1.F ((aA_1, (aA_2, (aA_3, aA_4))), (1048576 : Int), ())).bind fun r9 => if (decide (r9.1.1 < 0)) = true then some ((true, ()), ()) else (Ag1.F ((aB_5, (aB_6, (aB_7, aB_8))), r9.1.1, ())).bind fun r10 => if (decide (r10.1.1 < 0)) = true then some ((true, ()), ()) else (Ad5.F ((aA_1, (aA_2, (aA_3, aA_4))), ())).bind fun r11 => (Ad5.F ((aB_5, (aB_6, (aB_7, aB_8))), ())).bind fun r12 => (Aa1.F (r11.1.1, r12.1.1, ())).bind fun r13 => (Ad5.F ((aA_1, (aA_2, (aA_3, aA_4))), ())).bind fun r14 => (Ad5.F ((aB_5, (aB_6, (aB_7, aB_8))), ())).bind fun r15 => (Aa2.F (r14.1.1, r15.1.1, ())).bind fun r16 => if (r16.1.1 != r13.1.1) = true then some ((false, ()), ()) else if (r16.1.2.1 != r13.1.2.1) = true then some ((false, ()), ()) else (Ad5.F ((aA_1, (aA_2, (aA_3, aA_4))), ())).bind fun r17 => (Ai0.F (r14.1.1, r17.1.1, ())).bind fun r18 => if (!r18.1.1) = true then some ((false, ()), ()) else (Ad5.F ((aB_5, (aB_6, (aB_7, aB_8))), ())).bind fun r19 => (Ai0.F (r15.1.1, r19.1.1, ())).bind fun r20 => if (!r20.1.1) = true then some ((false, ()), ()) else some ((true, ()), ())
theorem eq : F ((aA_1, (aA_2, (aA_3, aA_4))), (aB_5, (aB_6, (aB_7, aB_8))), ()) = T aA_1 aA_2 aA_3 aA_4 aB_5 aB_6 aB_7 aB_8 := eq_any fun k => by kernel_rfl
theorem S : a3D prog ⟨3, sig, F⟩ := sound_k (res := [.tmp 4]) func3 (cok (cM ⟨Ag1.S, cM ⟨Aa1.S, cM ⟨Ad5.S, cM ⟨Aa2.S, cM ⟨Ai0.S, nM⟩⟩⟩⟩⟩))
end Ai8
end Go.Proofs.YtnfpapicmhhlnaaGreat
