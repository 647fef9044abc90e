/- The functions, as the machine runs them. -/
import Derived.Test.YtjimdbbeilfkfaaGreatVm4
import Derived.Test.YtjimdbbeilfkfaaGreatProg
import Derived.KernelRfl
import Derived.WalkKit
import Derived.Lib.Walk
import Derived.Lib.AppendZeros
import Derived.Sort.WalkA
import Derived.Sort.WalkB2
import Derived.Sort.WalkB12
import Derived.Deep.LoopGhost
import Derived.Shelf.RegionOpenPlain
import Derived.Lib.SliceRun
namespace Go.Proofs.YtjimdbbeilfkfaaGreat
open Go Go.Vm
set_option linter.unusedVariables false
set_option linter.unusedSimpArgs false
open Go.Proofs.Tryz
abbrev LI := List Int
abbrev LL := List LI
abbrev MX := Int × Int × Int × LI
abbrev LM := List MX
abbrev SF := LL × Int × LI × LM
abbrev OI := Option ((Int × Unit) × Unit)
abbrev OB := Option ((Bool × Unit) × Unit)
abbrev OL := Option ((LI × Unit) × Unit)
abbrev OQ := Option ((LL × Unit) × Unit)
abbrev OM := Option ((MX × Unit) × Unit)
abbrev OS := Option ((SF × Unit) × Unit)
abbrev tI : Ty := .int .i64
abbrev tL : Ty := .sl tI
abbrev tQ : Ty := .sl tL
abbrev cI (x : Int) : Cell := ⟨tI, .sh, x⟩
abbrev cL (x : LI) : Cell := ⟨tL, .sh, x⟩
abbrev dL (x : LI) : Cell := ⟨tL, .deep, x⟩
abbrev cQ (x : LL) : Cell := ⟨tQ, .sh, x⟩
abbrev dQ (x : LL) : Cell := ⟨tQ, .deep, x⟩
abbrev vI (x : Int) : TV := .val false [cI x]
abbrev vL (x : LI) : TV := .val false [cL x]
abbrev vQ (x : LL) : TV := .val false [cQ x]
def tabl : List (Nat × TInfo) := [
  (2, ⟨false, tI, 0, []⟩),
  (3, ⟨false, tI, 0, []⟩),
  (4, ⟨false, .bool, 0, []⟩),
  (22, ⟨false, tQ, 25, []⟩),
  (24, ⟨true, tQ, 0, [(0, 1, false)]⟩),
  (25, ⟨false, tL, 2, []⟩),
  (32, ⟨true, tQ, 0, [(0, 1, false)]⟩),
  (235, ⟨false, (.int .u64), 0, []⟩),
  (242, ⟨false, tL, 3, []⟩)]
theorem tab_good : tabB Go.Proofs.Tryz.prog tabl = true := by kernel_rfl
theorem tab_open : b3P Go.Proofs.Tryz.prog tabl = true := by kernel_rfl
theorem mixed_ok : Go.Proofs.Tryz.prog.follows .mixedOrders = true := by kernel_rfl
set_option maxHeartbeats 2000000 in
set_option maxRecDepth 100000 in
theorem slices_Grow_Lint64_int64.grow0 (w : World) : Calls Go.Proofs.Tryz.prog 293 #[.slice none 0 0, .int .i64 ((0 : Nat) : Int)] w fun e w' => e = .returned (.slice none 0 0) ∧ w' = w := by
  have h2 : Go.RowKit.wrap64 (((0 : Nat) : Int) - ((0 : Nat) : Int)) = 0 := by unfold Go.RowKit.wrap64; omega
  go_enter Go.Proofs.Tryz.func293, Go.Proofs.Tryz.ntmps293
  go_wp2
  go_ret
  exact ⟨rfl, rfl⟩
set_option maxHeartbeats 4000000 in
set_option maxRecDepth 100000 in
theorem slices_Grow_Lint64_int64.grow1 (w : World) (n : Nat) (h0 : 0 < n) (hn : n ≤ 1099511627776) (i : TypeInfo) (z : Value) (hi : Go.Proofs.Tryz.prog.info? 2 = some i) (hz : i.zero = some z) (hs : 0 < i.size) (hb : i.bytes ≤ 256) :
    Calls Go.Proofs.Tryz.prog 293 #[.slice none 0 0, .int .i64 (n : Int)] w fun e w' => ∃ G, n ≤ G ∧ G ≤ 9223372036854775807 ∧ e = .returned (.slice (some ⟨w.heap.size, 0, none⟩) 0 G) ∧ w' = w.drew.alloc (.cells (Builtin.zeroCells z.cells n ++ Builtin.zeroCells z.cells (G - n)) 2) := by
  have h1 : ¬ ((n : Int) < 0) := by omega
  have h2 : Go.RowKit.wrap64 (((0 : Nat) : Int) - ((0 : Nat) : Int)) = 0 := by unfold Go.RowKit.wrap64; omega
  have h3 : Go.RowKit.wrap64 ((n : Int) - 0) = (n : Int) := by unfold Go.RowKit.wrap64; omega
  have h4 : (n : Int) > 0 := by omega
  have hm : n * i.bytes ≤ 1099511627776 * 256 := Nat.mul_le_mul hn hb
  have hrz : ∀ ty, (Builtin.append_ #[25, 3] ty #[.slice none 0 0, .int .i64 (n : Int)]).run Go.Proofs.Tryz.prog w =
      .ok (.slice (some ⟨w.heap.size, 0, none⟩) n (grownCap w n 0 2)) (w.drew.alloc (.cells (Builtin.zeroCells z.cells n ++ Builtin.zeroCells z.cells (grownCap w n 0 2 - n)) 2)) := fun ty =>
    Lib.run_append_nil_zeros (P := Go.Proofs.Tryz.prog) w 25 3 ty 2 i z .i64 .i64 (by kernel_rfl) (by kernel_rfl) hi hz n h0 hs (by omega) (by omega)
  have hGn : n ≤ grownCap w n 0 2 := grownCap_ge w _ _ _
  obtain ⟨G, hG⟩ : ∃ G, G = grownCap w n 0 2 := ⟨_, rfl⟩
  have hG63 : G ≤ 9223372036854775807 := by
    have := grownCap_le_maxLen w n 0 2 (by unfold maxLen; omega)
    rw [← hG] at this
    unfold maxLen at this
    omega
  rw [← hG] at hrz hGn
  clear hG
  refine Calls.mono (R := fun e w' => e = .returned (.slice (some ⟨w.heap.size, 0, none⟩) 0 G) ∧ w' = w.drew.alloc (.cells (Builtin.zeroCells z.cells n ++ Builtin.zeroCells z.cells (G - n)) 2)) ?_ fun e w' h => ⟨G, hGn, hG63, h.1, h.2⟩
  clear hi hz hs hb hm
  go_enter Go.Proofs.Tryz.func293, Go.Proofs.Tryz.ntmps293
  go_wp2_with (at_builtin; refine Lib.wpList_append_run _ rfl _ _ _ _ rfl _ _ rfl rfl _ _ (hrz _) ?_)
  all_goals (go_ret; exact ⟨rfl, rfl⟩)
theorem slices_Grow_Lint64_int64.growOK : b1h Go.Proofs.Tryz.prog (293, tI) := by
  have hT : a2X tabl 2 = some ⟨false, tI, 0, []⟩ := by kernel_rfl
  obtain ⟨inf, h1, h2, h3, h4, h5⟩ := (tab_ok tab_good).info 2 _ hT
  exact growOK_of ⟨Go.Proofs.Tryz.f293, Go.Proofs.Tryz.func293, by kernel_rfl, by kernel_rfl⟩ (a6I (tab_ok tab_good) hT) slices_Grow_Lint64_int64.grow0 fun w n a b => slices_Grow_Lint64_int64.grow1 w n a b inf _ h1 h5 (by rw [h2]; exact a3i _) h4
abbrev pC : PS := .val true tQ
abbrev pQ : PS := .val false tQ
abbrev pL : PS := .val false tL
abbrev pI : PS := .val false tI
abbrev qC : PS := .rptr tQ
abbrev oI : OutK × Ty × Vm.Mode := (.val false, tI, .deep)
abbrev oB : OutK × Ty × Vm.Mode := (.val false, .bool, .deep)
abbrev oL : OutK × Ty × Vm.Mode := (.val false, tL, .deep)
abbrev oQ : OutK × Ty × Vm.Mode := (.val false, tQ, .deep)
abbrev oC : OutK × Ty × Vm.Mode := (.val true, tQ, .deep)
abbrev bd (f : Func) : Code := f.body.getD .skip
abbrev cx (l : List Vm.Callee) : Ctx := ⟨a2X tabl, l, [], [], [], []⟩
abbrev cf (c : Ctx) : Cfg := ⟨c, [], [], fun _ => ([], []), fun _ => []⟩
abbrev cl (c : Ctx) (f : Nat → List Nat × List Nat) : Cfg := ⟨c, [], [], f, fun _ => []⟩
theorem nM {α : Type} {p : α → Prop} : ∀ x ∈ ([] : List α), p x := List.forall_mem_nil _
theorem cM {α : Type} {p : α → Prop} {a : α} {l : List α} (h : p a ∧ ∀ x ∈ l, p x) : ∀ x ∈ a :: l, p x := List.forall_mem_cons.2 h
theorem cok {l : List Vm.Callee} (h : ∀ e ∈ l, a3x prog e) : CtxOK prog (cx l) := ⟨nM, mixed_ok, tab_ok tab_good, h, nM, nM⟩
abbrev dD : TV := .dead

namespace Aa5
noncomputable def sig : Sig := ⟨[pL, pL], [oB]⟩
noncomputable def cfg : Cfg := cl (cx []) fun id => match id with | 4 => ([0, 1, 5], []) | _ => ([], [])
noncomputable def fin := finK cfg.c sig [.tmp 4]
noncomputable def F (d : LI × LI × Unit) : OB := anyK (a9q cfg fin (bd f19) (a5e sig.ps d 26))
variable (k : Nat) (x3 x4 : LI) (i5 : Int)
noncomputable def l4 : OB := Vm.runT cfg fin k [.inLoop (sub [1, 1, 0, 1, 0, 0] (bd f19)), .inBlock 0, .code (sub [1, 1, 1] (bd f19))] ⟨[vL x3, vL x4, dD, dD, dD, vI i5] ++ a8I 20, []⟩
theorem l4_eq : l4 (k + 1) x3 x4 i5 = if (decide (i5 < (x3.length : Int))) = true then if 0 ≤ i5 ∧ i5 < (x3.length : Int) then if 0 ≤ i5 ∧ i5 < (x4.length : Int) then if ((x3.getD i5.toNat 0 : Int) != (x4.getD i5.toNat 0 : Int)) = true then some ((false, ()), ()) else l4 k x3 x4 (IntKind.i64.wrap (i5 + 1)) else none else none else some ((true, ()), ()) := by kernel_rfl
variable (a_1 b_2 : LI)
noncomputable def T : OB := if ((a_1.length : Int) != (b_2.length : Int)) = true then some ((false, ()), ()) else l4 k a_1 b_2 (0 : Int)
theorem of {r} (h : Ev (fun k => T k a_1 b_2) r) : F (a_1, b_2, ()) = some r := Ev.run (fun k => by kernel_rfl) h
theorem S : a3x prog ⟨19, sig, F⟩ := sound_k (res := [.tmp 4]) func19 (cok nM)
end Aa5
namespace Aa9
noncomputable def sig : Sig := ⟨[.wr false tL .deep, pI], [oI]⟩
noncomputable def cfg : Cfg := ⟨cx [], [0], [], fun id => match id with | 2 => ([0, 1, 5], [0]) | _ => ([], []), fun _ => []⟩
noncomputable def fin := finK cfg.c sig [.tmp 4]
noncomputable def F (d : LI × Int × Unit) : Option ((Int × Unit) × (LI × Unit)) := anyK (a9q cfg fin (bd f22) (a5e sig.ps d 19))
variable (k : Nat) (i3 i4 : Int) (x5 : LI)
noncomputable def l2 : Option ((Int × Unit) × (LI × Unit)) := Vm.runT cfg fin k [.inLoop (sub [1, 0, 1, 0, 0] (bd f22)), .inBlock 0, .code (sub [1, 1] (bd f22))] ⟨[.view 0 (.root 0) 1 false, vI i3, dD, dD, dD, vI i4] ++ a8I 13, [(0, ⟨false, [dL x5]⟩)]⟩
theorem l2_eq : l2 (k + 1) i3 i4 x5 = if (decide (i4 < (x5.length : Int))) = true then if 0 ≤ i4 ∧ i4 < (x5.length : Int) then l2 k (IntKind.i64.wrap (i3 + 1)) (IntKind.i64.wrap (i4 + 1)) (x5.set i4.toNat i3) else none else some ((i3, ()), (x5, ())) := by kernel_rfl
variable (a_1 : LI) (k_2 : Int)
noncomputable def T : Option ((Int × Unit) × (LI × Unit)) := l2 k k_2 (0 : Int) a_1
theorem of {r} (h : Ev (fun k => T k a_1 k_2) r) : F (a_1, k_2, ()) = some r := Ev.run (fun k => by kernel_rfl) h
theorem S : a3x prog ⟨22, sig, F⟩ := sound_k (res := [.tmp 4]) func22 (cok nM)
end Aa9
namespace Aa4
noncomputable def sig : Sig := ⟨[pL], [oL]⟩
noncomputable def cfg : Cfg := cl (cx []) fun id => match id with | 3 => ([0, 3, 4], [12]) | _ => ([], [])
noncomputable def fin := finK cfg.c sig [.tmp 2]
noncomputable def F (d : LI × Unit) : OL := anyK (a9q cfg fin (bd f29) (a5e sig.ps d 22))
variable (k : Nat) (x2 : LI) (i3 : Int) (x4 : LI)
noncomputable def l3 : OL := Vm.runT cfg fin k [.inLoop (sub [1, 1, 0, 1, 0, 0] (bd f29)), .inBlock 0, .code (sub [1, 1, 1] (bd f29))] ⟨[vL x2, dD, dD, .view 12 (.root 0) 1 false, vI i3] ++ a8I 17, [(12, ⟨false, [dL x4]⟩)]⟩
theorem l3_eq : l3 (k + 1) x2 i3 x4 = if (decide (i3 < (x2.length : Int))) = true then if 0 ≤ i3 ∧ i3 < (x2.length : Int) then if 0 ≤ i3 ∧ i3 < (x4.length : Int) then l3 k x2 (IntKind.i64.wrap (i3 + 1)) (x4.set i3.toNat (x2.getD i3.toNat 0 : Int)) else none else none else some ((x4, ()), ()) := by kernel_rfl
variable (a_1 : LI)
noncomputable def T : OL := if 0 ≤ (a_1.length : Int) ∧ (a_1.length : Int) ≤ (bigN : Int) then l3 k a_1 (0 : Int) (List.replicate (a_1.length : Int).toNat (0 : Int)) else none
theorem of {r} (h : Ev (fun k => T k a_1) r) : F (a_1, ()) = some r := Ev.run (fun k => by kernel_rfl) h
theorem S : a3x prog ⟨29, sig, F⟩ := sound_k (res := [.tmp 2]) func29 (cok nM)
noncomputable def sigF : Sig := ⟨[.val false tL], [(.fr false, tL, .deep)]⟩
theorem SF : a3x prog ⟨29, sigF, F⟩ := sound_fr S
end Aa4
namespace Af7
noncomputable def sig : Sig := ⟨[pL, pI], [oI]⟩
noncomputable def cfg : Cfg := cf (cx [])
noncomputable def fin := finK cfg.c sig [.tmp 4]
noncomputable def F (d : LI × Int × Unit) : OI := anyK (a9q cfg fin (bd f62) (a5e sig.ps d 12))
variable (a_1 : LI) (left_2 : Int)
noncomputable def T : OI := if (decide ((IntKind.i64.wrap (left_2 - (a_1.length : Int))) < 0)) = true then some (((-1 : Int), ()), ()) else some ((IntKind.i64.wrap (left_2 - (a_1.length : Int)), ()), ())
theorem eq : F (a_1, left_2, ()) = T a_1 left_2 := eq_any fun k => by kernel_rfl
theorem S : a3x prog ⟨62, sig, F⟩ := sound_k (res := [.tmp 4]) func62 (cok nM)
end Af7
namespace Ac8
noncomputable def sig : Sig := ⟨[pQ, pI], [oI]⟩
noncomputable def cfg : Cfg := cl (cx [⟨62, Af7.sig, Af7.F⟩]) fun id => match id with | 5 => ([0, 1, 5], []) | _ => ([], [])
noncomputable def fin := finK cfg.c sig [.tmp 4]
noncomputable def F (d : LL × Int × Unit) : OI := anyK (a9q cfg fin (bd f83) (a5e sig.ps d 27))
variable (k : Nat) (x3 : LL) (i4 i5 : Int)
noncomputable def l5 : OI := Vm.runT cfg fin k [.inLoop (sub [1, 1, 1, 0, 1, 0, 0] (bd f83)), .inBlock 0, .code (sub [1, 1, 1, 1] (bd f83))] ⟨[vQ x3, vI i4, dD, dD, dD, vI i5] ++ a8I 21, []⟩
theorem l5_eq : l5 (k + 1) x3 i4 i5 = if (decide (i5 < (x3.length : Int))) = true then if 0 ≤ i5 ∧ i5 < (x3.length : Int) then (Af7.F (x3.getD i5.toNat ([] : LI), i4, ())).bind fun r6 => if (decide (r6.1.1 < 0)) = true then some (((-1 : Int), ()), ()) else l5 k x3 r6.1.1 (IntKind.i64.wrap (i5 + 1)) else none else some ((i4, ()), ()) := by kernel_rfl
variable (a_1 : LL) (left_2 : Int)
noncomputable def T : OI := if (decide ((IntKind.i64.wrap (left_2 - (a_1.length : Int))) < 0)) = true then some (((-1 : Int), ()), ()) else l5 k a_1 (IntKind.i64.wrap (left_2 - (a_1.length : Int))) (0 : Int)
theorem of {r} (h : Ev (fun k => T k a_1 left_2) r) : F (a_1, left_2, ()) = some r := Ev.run (fun k => by kernel_rfl) h
theorem S : a3x prog ⟨83, sig, F⟩ := sound_k (res := [.tmp 4]) func83 (cok (cM ⟨Af7.S, nM⟩))
end Ac8
namespace Ad9
noncomputable def sig : Sig := ⟨[pC, pI], [oI]⟩
noncomputable def cfg : Cfg := cf (cx [⟨83, Ac8.sig, Ac8.F⟩])
noncomputable def fin := finK cfg.c sig [.tmp 4]
noncomputable def F (d : LL × Int × Unit) : OI := anyK (a9q cfg fin (bd f35) (a5e sig.ps d 12))
variable (a_1 : LL) (left_2 : Int)
noncomputable def T : OI := (Ac8.F (a_1, left_2, ())).bind fun r3 => if (decide (r3.1.1 < 0)) = true then some (((-1 : Int), ()), ()) else some ((r3.1.1, ()), ())
theorem eq : F (a_1, left_2, ()) = T a_1 left_2 := eq_any fun k => by kernel_rfl
theorem S : a3x prog ⟨35, sig, F⟩ := sound_k (res := [.tmp 4]) func35 (cok (cM ⟨Ac8.S, nM⟩))
end Ad9
namespace Ad3
noncomputable def sig : Sig := ⟨[pQ], [oQ]⟩
noncomputable def cfg : Cfg := cl (cx [⟨29, Aa4.sig, Aa4.F⟩]) fun id => match id with | 3 => ([0, 3, 4], [12]) | _ => ([], [])
noncomputable def fin := finK cfg.c sig [.tmp 2]
noncomputable def F (d : LL × Unit) : OQ := anyK (a9q cfg fin (bd f86) (a5e sig.ps d 23))
variable (k : Nat) (x2 : LL) (i3 : Int) (x4 : LL)
noncomputable def l3 : OQ := Vm.runT cfg fin k [.inLoop (sub [1, 1, 0, 1, 0, 0] (bd f86)), .inBlock 0, .code (sub [1, 1, 1] (bd f86))] ⟨[vQ x2, dD, dD, .view 12 (.root 0) 1 false, vI i3] ++ a8I 18, [(12, ⟨false, [dQ x4]⟩)]⟩
theorem l3_eq : l3 (k + 1) x2 i3 x4 = if (decide (i3 < (x2.length : Int))) = true then if 0 ≤ i3 ∧ i3 < (x2.length : Int) then (Aa4.F (x2.getD i3.toNat ([] : LI), ())).bind fun r5 => if 0 ≤ i3 ∧ i3 < (x4.length : Int) then l3 k x2 (IntKind.i64.wrap (i3 + 1)) (x4.set i3.toNat r5.1.1) else none else none else some ((x4, ()), ()) := by kernel_rfl
variable (a_1 : LL)
noncomputable def T : OQ := if 0 ≤ (a_1.length : Int) ∧ (a_1.length : Int) ≤ (bigN : Int) then l3 k a_1 (0 : Int) (List.replicate (a_1.length : Int).toNat ([] : LI)) else none
theorem of {r} (h : Ev (fun k => T k a_1) r) : F (a_1, ()) = some r := Ev.run (fun k => by kernel_rfl) h
theorem S : a3x prog ⟨86, sig, F⟩ := sound_k (res := [.tmp 2]) func86 (cok (cM ⟨Aa4.S, nM⟩))
end Ad3
namespace Aa6
noncomputable def sig : Sig := ⟨[pC], [oC]⟩
noncomputable def cfg : Cfg := cf (cx [⟨86, Ad3.sig, Ad3.F⟩])
noncomputable def fin := finK cfg.c sig [.cell 2 32]
noncomputable def F (d : LL × Unit) : OQ := anyK (a9q cfg fin (bd f37) (a5e sig.ps d 9))
variable (a_1 : LL)
noncomputable def T : OQ := (Ad3.F (a_1, ())).bind fun r2 => some ((r2.1.1, ()), ())
theorem eq : F (a_1, ()) = T a_1 := eq_any fun k => by kernel_rfl
theorem S : a3x prog ⟨37, sig, F⟩ := sound_k (res := [.cell 2 32]) func37 (cok (cM ⟨Ad3.S, nM⟩))
noncomputable def sigF : Sig := ⟨[.val true tQ], [(.fr true, tQ, .deep)]⟩
theorem SF : a3x prog ⟨37, sigF, F⟩ := sound_fr S
end Aa6
namespace Ac7
noncomputable def sig : Sig := ⟨[pQ, pQ], [oB]⟩
noncomputable def cfg : Cfg := cl (cx [⟨19, Aa5.sig, Aa5.F⟩]) fun id => match id with | 4 => ([0, 1, 5], []) | _ => ([], [])
noncomputable def fin := finK cfg.c sig [.tmp 4]
noncomputable def F (d : LL × LL × Unit) : OB := anyK (a9q cfg fin (bd f89) (a5e sig.ps d 27))
variable (k : Nat) (x3 x4 : LL) (i5 : Int)
noncomputable def l4 : OB := Vm.runT cfg fin k [.inLoop (sub [1, 1, 0, 1, 0, 0] (bd f89)), .inBlock 0, .code (sub [1, 1, 1] (bd f89))] ⟨[vQ x3, vQ x4, dD, dD, dD, vI i5] ++ a8I 21, []⟩
theorem l4_eq : l4 (k + 1) x3 x4 i5 = if (decide (i5 < (x3.length : Int))) = true then if 0 ≤ i5 ∧ i5 < (x3.length : Int) then if 0 ≤ i5 ∧ i5 < (x4.length : Int) then (Aa5.F (x3.getD i5.toNat ([] : LI), x4.getD i5.toNat ([] : LI), ())).bind fun r6 => if (!r6.1.1) = true then some ((false, ()), ()) else l4 k x3 x4 (IntKind.i64.wrap (i5 + 1)) else none else none else some ((true, ()), ()) := by kernel_rfl
variable (a_1 b_2 : LL)
noncomputable def T : OB := if ((a_1.length : Int) != (b_2.length : Int)) = true then some ((false, ()), ()) else l4 k a_1 b_2 (0 : Int)
theorem of {r} (h : Ev (fun k => T k a_1 b_2) r) : F (a_1, b_2, ()) = some r := Ev.run (fun k => by kernel_rfl) h
theorem S : a3x prog ⟨89, sig, F⟩ := sound_k (res := [.tmp 4]) func89 (cok (cM ⟨Aa5.S, nM⟩))
end Ac7
namespace Ab8
noncomputable def sig : Sig := ⟨[pC, pC], [oB]⟩
noncomputable def cfg : Cfg := cf (cx [⟨89, Ac7.sig, Ac7.F⟩])
noncomputable def fin := finK cfg.c sig [.tmp 4]
noncomputable def F (d : LL × LL × Unit) : OB := anyK (a9q cfg fin (bd f39) (a5e sig.ps d 11))
variable (a_1 b_2 : LL)
noncomputable def T : OB := (Ac7.F (a_1, b_2, ())).bind fun r3 => if (!r3.1.1) = true then some ((false, ()), ()) else some ((true, ()), ())
theorem eq : F (a_1, b_2, ()) = T a_1 b_2 := eq_any fun k => by kernel_rfl
theorem S : a3x prog ⟨39, sig, F⟩ := sound_k (res := [.tmp 4]) func39 (cok (cM ⟨Ac7.S, nM⟩))
end Ab8
namespace Ad2
noncomputable def sig : Sig := ⟨[.wr false tQ .deep, pI], [oI]⟩
noncomputable def cfg : Cfg := ⟨cx [⟨22, Aa9.sig, Aa9.F⟩], [0], [], fun id => match id with | 2 => ([0, 1, 5], [0]) | _ => ([], []), fun _ => []⟩
noncomputable def fin := finK cfg.c sig [.tmp 4]
noncomputable def F (d : LL × Int × Unit) : Option ((Int × Unit) × (LL × Unit)) := anyK (a9q cfg fin (bd f90) (a5e sig.ps d 19))
variable (k : Nat) (i3 i4 : Int) (x5 : LL)
noncomputable def l2 : Option ((Int × Unit) × (LL × Unit)) := Vm.runT cfg fin k [.inLoop (sub [1, 0, 1, 0, 0] (bd f90)), .inBlock 0, .code (sub [1, 1] (bd f90))] ⟨[.view 0 (.root 0) 1 false, vI i3, dD, dD, dD, vI i4] ++ a8I 13, [(0, ⟨false, [dQ x5]⟩)]⟩
theorem l2_eq : l2 (k + 1) i3 i4 x5 = if (decide (i4 < (x5.length : Int))) = true then if 0 ≤ i4 ∧ i4 < (x5.length : Int) then (Aa9.F (x5.getD i4.toNat ([] : LI), i3, ())).bind fun r6 => l2 k r6.1.1 (IntKind.i64.wrap (i4 + 1)) (x5.set i4.toNat r6.2.1) else none else some ((i3, ()), (x5, ())) := by kernel_rfl
variable (a_1 : LL) (k_2 : Int)
noncomputable def T : Option ((Int × Unit) × (LL × Unit)) := l2 k k_2 (0 : Int) a_1
theorem of {r} (h : Ev (fun k => T k a_1 k_2) r) : F (a_1, k_2, ()) = some r := Ev.run (fun k => by kernel_rfl) h
theorem S : a3x prog ⟨90, sig, F⟩ := sound_k (res := [.tmp 4]) func90 (cok (cM ⟨Aa9.S, nM⟩))
end Ad2
namespace Aa8
noncomputable def sig : Sig := ⟨[.wr true tQ .deep, pI], [oI]⟩
noncomputable def cfg : Cfg := ⟨cx [⟨90, Ad2.sig, Ad2.F⟩], [0], [], fun _ => ([], []), fun _ => []⟩
noncomputable def fin := finK cfg.c sig [.tmp 4]
noncomputable def F (d : LL × Int × Unit) : Option ((Int × Unit) × (LL × Unit)) := anyK (a9q cfg fin (bd f40) (a5e sig.ps d 10))
variable (a_1 : LL) (k_2 : Int)
noncomputable def T : Option ((Int × Unit) × (LL × Unit)) := (Ad2.F (a_1, k_2, ())).bind fun r3 => some ((r3.1.1, ()), (r3.2.1, ()))
theorem eq : F (a_1, k_2, ()) = T a_1 k_2 := eq_any fun k => by kernel_rfl
theorem S : a3x prog ⟨40, sig, F⟩ := sound_k (res := [.tmp 4]) func40 (cok (cM ⟨Ad2.S, nM⟩))
end Aa8
namespace Ac2
noncomputable def sig : Sig := ⟨[pL, pL], [oB]⟩
noncomputable def cfg : Cfg := cl (cx []) fun id => match id with | 4 => ([0, 1, 5], []) | _ => ([], [])
noncomputable def fin := finK cfg.c sig [.tmp 4]
noncomputable def F (d : LI × LI × Unit) : OB := anyK (a9q cfg fin (bd f191) (a5e sig.ps d 26))
variable (k : Nat) (x3 x4 : LI) (i5 : Int)
noncomputable def l4 : OB := Vm.runT cfg fin k [.inLoop (sub [1, 1, 0, 1, 0, 0] (bd f191)), .inBlock 0, .code (sub [1, 1, 1] (bd f191))] ⟨[vL x3, vL x4, dD, dD, dD, vI i5] ++ a8I 20, []⟩
theorem l4_eq : l4 (k + 1) x3 x4 i5 = if (decide (i5 < (x3.length : Int))) = true then if 0 ≤ i5 ∧ i5 < (x3.length : Int) then if 0 ≤ i5 ∧ i5 < (x4.length : Int) then if ((x3.getD i5.toNat 0 : Int) != (x4.getD i5.toNat 0 : Int)) = true then some ((false, ()), ()) else l4 k x3 x4 (IntKind.i64.wrap (i5 + 1)) else none else none else some ((true, ()), ()) := by kernel_rfl
variable (a_1 b_2 : LI)
noncomputable def T : OB := if ((a_1.length : Int) != (b_2.length : Int)) = true then some ((false, ()), ()) else l4 k a_1 b_2 (0 : Int)
theorem of {r} (h : Ev (fun k => T k a_1 b_2) r) : F (a_1, b_2, ()) = some r := Ev.run (fun k => by kernel_rfl) h
theorem S : a3x prog ⟨191, sig, F⟩ := sound_k (res := [.tmp 4]) func191 (cok nM)
end Ac2
namespace Aa0
noncomputable def sig : Sig := ⟨[qC, pL], [oI]⟩
noncomputable def cfg : Cfg := cl (cx [⟨191, Ac2.sig, Ac2.F⟩]) fun id => match id with | 2 => ([0, 1, 5], []) | _ => ([], [])
noncomputable def fin := finK cfg.c sig [.tmp 4]
noncomputable def F (d : LL × LI × Unit) : OI := anyK (a9q cfg fin (bd f101) (a5e sig.ps d 25))
variable (k : Nat) (x3 : LL) (x4 : LI) (i5 : Int)
noncomputable def l2 : OI := Vm.runT cfg fin k [.inLoop (sub [1, 0, 1, 0, 0] (bd f101)), .inBlock 0, .code (sub [1, 1] (bd f101))] ⟨[.rptr false [cQ x3], vL x4, dD, dD, dD, vI i5] ++ a8I 19, []⟩
theorem l2_eq : l2 (k + 1) x3 x4 i5 = if (decide (i5 < (x3.length : Int))) = true then if 0 ≤ i5 ∧ i5 < (x3.length : Int) then (Ac2.F (x3.getD i5.toNat ([] : LI), x4, ())).bind fun r6 => if r6.1.1 = true then some ((i5, ()), ()) else l2 k x3 x4 (IntKind.i64.wrap (i5 + 1)) else none else some (((-1 : Int), ()), ()) := by kernel_rfl
variable (c_1 : LL) (s_2 : LI)
noncomputable def T : OI := l2 k c_1 s_2 (0 : Int)
theorem of {r} (h : Ev (fun k => T k c_1 s_2) r) : F (c_1, s_2, ()) = some r := Ev.run (fun k => by kernel_rfl) h
theorem S : a3x prog ⟨101, sig, F⟩ := sound_k (res := [.tmp 4]) func101 (cok (cM ⟨Ac2.S, nM⟩))
end Aa0
namespace Ac9
noncomputable def sig : Sig := ⟨[pI, pI, pI], [oB]⟩
noncomputable def cfg : Cfg := cf (cx [])
noncomputable def fin := finK cfg.c sig [.tmp 6]
noncomputable def F (d : Int × Int × Int × Unit) : OB := anyK (a9q cfg fin (bd f176) (a5e sig.ps d 15))
variable (n_1 low_2 high_3 : Int)
noncomputable def T : OB := if (decide (n_1 ≥ low_2)) = true then some ((decide (n_1 ≤ high_3), ()), ()) else some ((false, ()), ())
theorem eq : F (n_1, low_2, high_3, ()) = T n_1 low_2 high_3 := eq_any fun k => by kernel_rfl
theorem S : a3x prog ⟨176, sig, F⟩ := sound_k (res := [.tmp 6]) func176 (cok nM)
end Ac9
namespace Ae4
noncomputable def sig : Sig := ⟨[pL, pI, pI], [oB]⟩
noncomputable def cfg : Cfg := cl (cx [⟨176, Ac9.sig, Ac9.F⟩]) fun id => match id with | 2 => ([0, 1, 2, 7], []) | _ => ([], [])
noncomputable def fin := finK cfg.c sig [.tmp 6]
noncomputable def F (d : LI × Int × Int × Unit) : OB := anyK (a9q cfg fin (bd f253) (a5e sig.ps d 38))
variable (k : Nat) (x4 : LI) (i5 i6 i7 : Int)
noncomputable def l2 : OB := Vm.runT cfg fin k [.inLoop (sub [1, 0, 1, 0, 0] (bd f253)), .inBlock 0, .code (sub [1, 1] (bd f253))] ⟨[vL x4, vI i5, vI i6, dD, dD, dD, dD, vI i7] ++ a8I 30, []⟩
theorem l2_eq : l2 (k + 1) x4 i5 i6 i7 = if (decide (i7 < (x4.length : Int))) = true then if 0 ≤ i7 ∧ i7 < (x4.length : Int) then (Ac9.F ((x4.getD i7.toNat 0 : Int), i5, i6, ())).bind fun r8 => if (!r8.1.1) = true then some ((false, ()), ()) else if (decide (i7 > 0)) = true then if 0 ≤ (IntKind.i64.wrap (i7 - 1)) ∧ (IntKind.i64.wrap (i7 - 1)) < (x4.length : Int) then if 0 ≤ i7 ∧ i7 < (x4.length : Int) then if (decide ((x4.getD (IntKind.i64.wrap (i7 - 1)).toNat 0) ≥ (x4.getD i7.toNat 0 : Int))) = true then some ((false, ()), ()) else l2 k x4 i5 i6 (IntKind.i64.wrap (i7 + 1)) else none else none else l2 k x4 i5 i6 (IntKind.i64.wrap (i7 + 1)) else none else some ((true, ()), ()) := by kernel_rfl
variable (list_1 : LI) (low_2 high_3 : Int)
noncomputable def T : OB := l2 k list_1 low_2 high_3 (0 : Int)
theorem of {r} (h : Ev (fun k => T k list_1 low_2 high_3) r) : F (list_1, low_2, high_3, ()) = some r := Ev.run (fun k => by kernel_rfl) h
theorem S : a3x prog ⟨253, sig, F⟩ := sound_k (res := [.tmp 6]) func253 (cok (cM ⟨Ac9.S, nM⟩))
end Ae4
namespace Ag1
noncomputable def sig : Sig := ⟨[pL], [oB]⟩
noncomputable def cfg : Cfg := cf (cx [⟨176, Ac9.sig, Ac9.F⟩, ⟨253, Ae4.sig, Ae4.F⟩])
noncomputable def fin := finK cfg.c sig [.tmp 2]
noncomputable def F (d : LI × Unit) : OB := anyK (a9q cfg fin (bd f182) (a5e sig.ps d 10))
variable (s_1 : LI)
noncomputable def T : OB := (Ac9.F ((s_1.length : Int), (1 : Int), (4 : Int), ())).bind fun r2 => if r2.1.1 = true then (Ae4.F (s_1, (0 : Int), (9 : Int), ())).bind fun r3 => some ((r3.1.1, ()), ()) else some ((false, ()), ())
theorem eq : F (s_1, ()) = T s_1 := eq_any fun k => by kernel_rfl
theorem S : a3x prog ⟨182, sig, F⟩ := sound_k (res := [.tmp 2]) func182 (cok (cM ⟨Ac9.S, cM ⟨Ae4.S, nM⟩⟩))
end Ag1
namespace Aa7
noncomputable def sig : Sig := ⟨[pL, pL], [oB]⟩
noncomputable def cfg : Cfg := cl (cx []) fun id => match id with | 4 => ([0, 1, 5], []) | _ => ([], [])
noncomputable def fin := finK cfg.c sig [.tmp 4]
noncomputable def F (d : LI × LI × Unit) : OB := anyK (a9q cfg fin (bd f183) (a5e sig.ps d 40))
variable (k : Nat) (x3 x4 : LI) (i5 : Int)
noncomputable def l4 : OB := Vm.runT cfg fin k [.inLoop (sub [1, 1, 0, 1, 0, 0] (bd f183)), .inBlock 0, .code (sub [1, 1, 1] (bd f183))] ⟨[vL x3, vL x4, dD, dD, dD, vI i5] ++ a8I 34, []⟩
theorem l4_eq : l4 (k + 1) x3 x4 i5 = if (decide (i5 < (x3.length : Int))) = true then if 0 ≤ i5 ∧ i5 < (x3.length : Int) then if 0 ≤ i5 ∧ i5 < (x4.length : Int) then if ((x3.getD i5.toNat 0 : Int) != (x4.getD i5.toNat 0 : Int)) = true then if 0 ≤ i5 ∧ i5 < (x3.length : Int) then if 0 ≤ i5 ∧ i5 < (x4.length : Int) then some ((decide ((x3.getD i5.toNat 0 : Int) < (x4.getD i5.toNat 0 : Int)), ()), ()) else none else none else l4 k x3 x4 (IntKind.i64.wrap (i5 + 1)) else none else none else some ((false, ()), ()) := by kernel_rfl
variable (a_1 b_2 : LI)
noncomputable def T : OB := if ((a_1.length : Int) != (b_2.length : Int)) = true then some ((decide ((a_1.length : Int) < (b_2.length : Int)), ()), ()) else l4 k a_1 b_2 (0 : Int)
theorem of {r} (h : Ev (fun k => T k a_1 b_2) r) : F (a_1, b_2, ()) = some r := Ev.run (fun k => by kernel_rfl) h
theorem S : a3x prog ⟨183, sig, F⟩ := sound_k (res := [.tmp 4]) func183 (cok nM)
end Aa7
namespace Ab2
noncomputable def sig : Sig := ⟨[pL], [oL]⟩
noncomputable def cfg : Cfg := cf (cx [])
noncomputable def fin := finK cfg.c sig [.tmp 2]
noncomputable def F (d : LI × Unit) : OL := anyK (a9q cfg fin (bd f152) (a5e sig.ps d 6))
variable (list_1 : LI)
noncomputable def T : OL := if ([] : LI).length + list_1.length ≤ bigA then some ((([] : LI) ++ list_1, ()), ()) else none
theorem eq : F (list_1, ()) = T list_1 := eq_any fun k => by kernel_rfl
theorem S : a3x prog ⟨152, sig, F⟩ := sound_k (res := [.tmp 2]) func152 (cok nM)
noncomputable def sigF : Sig := ⟨[.val false tL], [(.fr false, tL, .deep)]⟩
theorem SF : a3x prog ⟨152, sigF, F⟩ := sound_fr S
end Ab2
namespace Ac3
noncomputable def sig : Sig := ⟨[pL, pI], [oL]⟩
noncomputable def cfg : Cfg := cf (cx [⟨152, Ab2.sig, Ab2.F⟩])
noncomputable def fin := finK cfg.c sig [.tmp 4]
noncomputable def F (d : LI × Int × Unit) : OL := anyK (a9q cfg fin (bd f184) (a5e sig.ps d 16))
variable (s_1 : LI) (k_2 : Int)
noncomputable def T : OL := if 0 ≤ (0 : Int) ∧ (0 : Int) ≤ k_2 ∧ k_2 ≤ (s_1.length : Int) then (Ab2.F (cutL s_1 (0 : Int) k_2, ())).bind fun r3 => if 0 ≤ (IntKind.i64.wrap (k_2 + (1 : Int))) ∧ (IntKind.i64.wrap (k_2 + (1 : Int))) ≤ (s_1.length : Int) ∧ (s_1.length : Int) ≤ (s_1.length : Int) then if r3.1.1.length + (cutL s_1 (IntKind.i64.wrap (k_2 + (1 : Int))) (s_1.length : Int)).length ≤ bigA then some ((r3.1.1 ++ (cutL s_1 (IntKind.i64.wrap (k_2 + (1 : Int))) (s_1.length : Int)), ()), ()) else none else none else none
theorem eq : F (s_1, k_2, ()) = T s_1 k_2 := eq_any fun k => by kernel_rfl
theorem S : a3x prog ⟨184, sig, F⟩ := sound_k (res := [.tmp 4]) func184 (cok (cM ⟨Ab2.S, nM⟩))
end Ac3
namespace Aa2
noncomputable def sig : Sig := ⟨[qC], [oB]⟩
noncomputable def cfg : Cfg := cl (cx [⟨101, Aa0.sig, Aa0.F⟩, ⟨182, Ag1.sig, Ag1.F⟩, ⟨183, Aa7.sig, Aa7.F⟩, ⟨184, Ac3.sig, Ac3.F⟩]) fun id => match id with | 4 => ([0, 3], []) | 10 => ([0, 3, 4, 5], []) | _ => ([], [])
noncomputable def fin := finK cfg.c sig [.tmp 2]
noncomputable def F (d : LL × Unit) : OB := anyK (a9q cfg fin (bd f92) (a5e sig.ps d 65))
variable (k : Nat) (x2 : LL) (i3 : Int)
noncomputable def l4 : OB := Vm.runT cfg fin k [.inLoop (sub [1, 1, 0, 1, 0, 0] (bd f92)), .inBlock 0, .code (sub [1, 1, 1] (bd f92))] ⟨[.rptr false [cQ x2], dD, dD, vI i3] ++ a8I 61, []⟩
variable (x6 : LL) (i7 : Int) (x8 : LI) (i9 : Int)
noncomputable def l10 : OB := Vm.runT cfg fin k [.inLoop (sub [1, 1, 0, 1, 0, 0, 1, 0, 0, 1, 1, 1, 0, 0] (bd f92)), .inBlock 2, .inBlock 1, .code (sub [1, 1, 0, 1, 0, 0, 1, 1] (bd f92)), .inLoop (sub [1, 1, 0, 1, 0, 0] (bd f92)), .inBlock 0, .code (sub [1, 1, 1] (bd f92))] ⟨[.rptr false [cQ x6], dD, dD, vI i7, vL x8, vI i9] ++ a8I 59, []⟩
theorem l4_eq : l4 (k + 1) x2 i3 = if (decide (i3 < (x2.length : Int))) = true then if 0 ≤ i3 ∧ i3 < (x2.length : Int) then (Ag1.F (x2.getD i3.toNat ([] : LI), ())).bind fun r4 => if (!r4.1.1) = true then some ((false, ()), ()) else if (decide (i3 > 0)) = true then if 0 ≤ (IntKind.i64.wrap (i3 - 1)) ∧ (IntKind.i64.wrap (i3 - 1)) < (x2.length : Int) then (Aa7.F (x2.getD (IntKind.i64.wrap (i3 - 1)).toNat ([] : LI), x2.getD i3.toNat ([] : LI), ())).bind fun r5 => if (!r5.1.1) = true then some ((false, ()), ()) else l10 k x2 i3 (x2.getD i3.toNat ([] : LI)) (0 : Int) else none else l10 k x2 i3 (x2.getD i3.toNat ([] : LI)) (0 : Int) else none else some ((true, ()), ()) := by kernel_rfl
theorem l10_eq : l10 (k + 1) x6 i7 x8 i9 = if (decide (i9 < (x8.length : Int))) = true then if (decide ((x8.length : Int) > 1)) = true then (Ac3.F (x8, i9, ())).bind fun r10 => (Aa0.F (x6, r10.1.1, ())).bind fun r11 => if (decide (r11.1.1 < 0)) = true then some ((false, ()), ()) else l10 k x6 i7 x8 (IntKind.i64.wrap (i9 + 1)) else l4 k x6 (IntKind.i64.wrap (i7 + 1)) else l4 k x6 (IntKind.i64.wrap (i7 + 1)) := by kernel_rfl
variable (toArray_1 : LL)
noncomputable def T : OB := if (decide ((toArray_1.length : Int) > 48)) = true then some ((false, ()), ()) else l4 k toArray_1 (0 : Int)
theorem of {r} (h : Ev (fun k => T k toArray_1) r) : F (toArray_1, ()) = some r := Ev.run (fun k => by kernel_rfl) h
theorem S : a3x prog ⟨92, sig, F⟩ := sound_k (res := [.tmp 2]) func92 (cok (cM ⟨Aa0.S, cM ⟨Ag1.S, cM ⟨Aa7.S, cM ⟨Ac3.S, nM⟩⟩⟩⟩))
end Aa2
namespace Ae5
noncomputable def sig : Sig := ⟨[qC, pI], [oL]⟩
noncomputable def cfg : Cfg := cl (cx []) fun id => match id with | 3 => ([0, 1, 5, 6], [20]) | _ => ([], [])
noncomputable def fin := finK cfg.c sig [.tmp 4]
noncomputable def F (d : LL × Int × Unit) : OL := anyK (a9q cfg fin (bd f74) (a5e sig.ps d 33))
variable (k : Nat) (x3 : LL) (i4 i5 : Int) (x6 : LI)
noncomputable def l3 : OL := Vm.runT cfg fin k [.inLoop (sub [1, 1, 0, 1, 0, 0] (bd f74)), .inBlock 0, .code (sub [1, 1, 1] (bd f74))] ⟨[.rptr false [cQ x3], vI i4, dD, dD, dD, .view 20 (.root 0) 1 false, vI i5] ++ a8I 26, [(20, ⟨false, [dL x6]⟩)]⟩
theorem l3_eq : l3 (k + 1) x3 i4 i5 x6 = if (decide (i5 < (x3.length : Int))) = true then if 0 ≤ i5 ∧ i5 < (x3.length : Int) then if (((x3.getD i5.toNat ([] : LI)).length : Int) == (IntKind.i64.wrap (i4 + 1))) = true then if x6.length + [i5].length ≤ bigA then l3 k x3 i4 (IntKind.i64.wrap (i5 + 1)) (x6 ++ [i5]) else none else l3 k x3 i4 (IntKind.i64.wrap (i5 + 1)) x6 else none else some ((x6, ()), ()) := by kernel_rfl
variable (c_1 : LL) (dimension_2 : Int)
noncomputable def T : OL := l3 k c_1 dimension_2 (0 : Int) ([] : LI)
theorem of {r} (h : Ev (fun k => T k c_1 dimension_2) r) : F (c_1, dimension_2, ()) = some r := Ev.run (fun k => by kernel_rfl) h
theorem S : a3x prog ⟨74, sig, F⟩ := sound_k (res := [.tmp 4]) func74 (cok nM)
end Ae5
namespace Ae3
noncomputable def sig : Sig := ⟨[pL, pI], [oL]⟩
noncomputable def cfg : Cfg := cl (cx []) fun id => match id with | 4 => ([0, 1, 5, 6, 7], [20]) | _ => ([], [])
noncomputable def fin := finK cfg.c sig [.tmp 4]
noncomputable def F (d : LI × Int × Unit) : OL := anyK (a9q cfg fin (bd f185) (a5e sig.ps d 49))
variable (k : Nat) (x3 : LI) (i4 : Int) (b5 : Bool) (i6 : Int) (x7 : LI)
noncomputable def l4 : OL := Vm.runT cfg fin k [.inLoop (sub [1, 1, 1, 0, 1, 0, 0] (bd f185)), .inBlock 0, .code (sub [1, 1, 1, 1] (bd f185))] ⟨[vL x3, vI i4, dD, dD, dD, .view 20 (.root 0) 1 false, .val false [⟨.bool, .sh, b5⟩], vI i6] ++ a8I 41, [(20, ⟨false, [dL x7]⟩)]⟩
theorem l4_eq : l4 (k + 1) x3 i4 b5 i6 x7 = if (decide (i6 < (x3.length : Int))) = true then if (!b5) = true then if 0 ≤ i6 ∧ i6 < (x3.length : Int) then if (decide ((x3.getD i6.toNat 0 : Int) ≥ i4)) = true then if 0 ≤ i6 ∧ i6 < (x3.length : Int) then if (decide ((x3.getD i6.toNat 0 : Int) > i4)) = true then if x7.length + [i4].length ≤ bigA then if 0 ≤ i6 ∧ i6 < (x3.length : Int) then if (x7 ++ [i4]).length + [(x3.getD i6.toNat 0 : Int)].length ≤ bigA then l4 k x3 i4 true (IntKind.i64.wrap (i6 + 1)) ((x7 ++ [i4]) ++ [(x3.getD i6.toNat 0 : Int)]) else none else none else none else if 0 ≤ i6 ∧ i6 < (x3.length : Int) then if x7.length + [(x3.getD i6.toNat 0 : Int)].length ≤ bigA then l4 k x3 i4 true (IntKind.i64.wrap (i6 + 1)) (x7 ++ [(x3.getD i6.toNat 0 : Int)]) else none else none else none else if 0 ≤ i6 ∧ i6 < (x3.length : Int) then if x7.length + [(x3.getD i6.toNat 0 : Int)].length ≤ bigA then l4 k x3 i4 b5 (IntKind.i64.wrap (i6 + 1)) (x7 ++ [(x3.getD i6.toNat 0 : Int)]) else none else none else none else if 0 ≤ i6 ∧ i6 < (x3.length : Int) then if x7.length + [(x3.getD i6.toNat 0 : Int)].length ≤ bigA then l4 k x3 i4 b5 (IntKind.i64.wrap (i6 + 1)) (x7 ++ [(x3.getD i6.toNat 0 : Int)]) else none else none else if (!b5) = true then if x7.length + [i4].length ≤ bigA then some ((x7 ++ [i4], ()), ()) else none else some ((x7, ()), ()) := by kernel_rfl
variable (list_1 : LI) (n_2 : Int)
noncomputable def T : OL := l4 k list_1 n_2 false (0 : Int) ([] : LI)
theorem of {r} (h : Ev (fun k => T k list_1 n_2) r) : F (list_1, n_2, ()) = some r := Ev.run (fun k => by kernel_rfl) h
theorem S : a3x prog ⟨185, sig, F⟩ := sound_k (res := [.tmp 4]) func185 (cok nM)
end Ae3
namespace Ab7
noncomputable def sig : Sig := ⟨[qC, pL, pL], [oL]⟩
noncomputable def cfg : Cfg := cl (cx [⟨101, Aa0.sig, Aa0.F⟩, ⟨185, Ae3.sig, Ae3.F⟩]) fun id => match id with | 3 => ([0, 1, 2, 7, 8], [28]) | _ => ([], [])
noncomputable def fin := finK cfg.c sig [.tmp 6]
noncomputable def F (d : LL × LI × LI × Unit) : OL := anyK (a9q cfg fin (bd f95) (a5e sig.ps d 29))
variable (k : Nat) (x4 : LL) (x5 x6 : LI) (i7 : Int) (x8 : LI)
noncomputable def l3 : OL := Vm.runT cfg fin k [.inLoop (sub [1, 1, 0, 1, 0, 0] (bd f95)), .inBlock 0, .code (sub [1, 1, 1] (bd f95))] ⟨[.rptr false [cQ x4], vL x5, vL x6, dD, dD, dD, dD, .view 28 (.root 0) 1 false, vI i7] ++ a8I 20, [(28, ⟨false, [dL x8]⟩)]⟩
theorem l3_eq : l3 (k + 1) x4 x5 x6 i7 x8 = if (decide (i7 < (x6.length : Int))) = true then if 0 ≤ i7 ∧ i7 ≤ (IntKind.i64.wrap (i7 + 1)) ∧ (IntKind.i64.wrap (i7 + 1)) ≤ (x6.length : Int) then (Aa0.F (x4, cutL x6 i7 (IntKind.i64.wrap (i7 + 1)), ())).bind fun r9 => if 0 ≤ r9.1.1 ∧ r9.1.1 < (x5.length : Int) then (Ae3.F (x8, x5.getD r9.1.1.toNat 0, ())).bind fun r10 => l3 k x4 x5 x6 (IntKind.i64.wrap (i7 + 1)) r10.1.1 else none else none else some ((x8, ()), ()) := by kernel_rfl
variable (c_1 : LL) (images_2 s_3 : LI)
noncomputable def T : OL := l3 k c_1 images_2 s_3 (0 : Int) ([] : LI)
theorem of {r} (h : Ev (fun k => T k c_1 images_2 s_3) r) : F (c_1, images_2, s_3, ()) = some r := Ev.run (fun k => by kernel_rfl) h
theorem S : a3x prog ⟨95, sig, F⟩ := sound_k (res := [.tmp 6]) func95 (cok (cM ⟨Aa0.S, cM ⟨Ae3.S, nM⟩⟩))
end Ab7
namespace Ad0
noncomputable def sig : Sig := ⟨[qC, qC, pL], [oB]⟩
noncomputable def cfg : Cfg := cl (cx [⟨74, Ae5.sig, Ae5.F⟩, ⟨95, Ab7.sig, Ab7.F⟩, ⟨101, Aa0.sig, Aa0.F⟩]) fun id => match id with | 4 => ([0, 1, 2, 7], []) | _ => ([], [])
noncomputable def fin := finK cfg.c sig [.tmp 6]
noncomputable def F (d : LL × LL × LI × Unit) : OB := anyK (a9q cfg fin (bd f93) (a5e sig.ps d 36))
variable (k : Nat) (x5 x6 : LL) (x7 : LI) (i8 : Int)
noncomputable def l4 : OB := Vm.runT cfg fin k [.inLoop (sub [1, 1, 0, 1, 0, 0] (bd f93)), .inBlock 0, .code (sub [1, 1, 1] (bd f93))] ⟨[.rptr false [cQ x5], .rptr false [cQ x6], vL x7, dD, dD, dD, dD, vI i8] ++ a8I 28, []⟩
theorem l4_eq : l4 (k + 1) x5 x6 x7 i8 = if (decide (i8 < (x5.length : Int))) = true then if 0 ≤ i8 ∧ i8 < (x5.length : Int) then (Ab7.F (x5, x7, x5.getD i8.toNat ([] : LI), ())).bind fun r9 => (Aa0.F (x6, r9.1.1, ())).bind fun r10 => if (decide (r10.1.1 < 0)) = true then some ((false, ()), ()) else l4 k x5 x6 x7 (IntKind.i64.wrap (i8 + 1)) else none else some ((true, ()), ()) := by kernel_rfl
variable (c_1 base_2 : LL) (images_3 : LI)
noncomputable def T : OB := (Ae5.F (c_1, (0 : Int), ())).bind fun r4 => if ((images_3.length : Int) != (r4.1.1.length : Int)) = true then some ((false, ()), ()) else l4 k c_1 base_2 images_3 (0 : Int)
theorem of {r} (h : Ev (fun k => T k c_1 base_2 images_3) r) : F (c_1, base_2, images_3, ()) = some r := Ev.run (fun k => by kernel_rfl) h
theorem S : a3x prog ⟨93, sig, F⟩ := sound_k (res := [.tmp 6]) func93 (cok (cM ⟨Ae5.S, cM ⟨Ab7.S, cM ⟨Aa0.S, nM⟩⟩⟩))
end Ad0
namespace Aa1
noncomputable def sig : Sig := ⟨[.wp tQ .shal, pL], []⟩
noncomputable def ctx (self : (LL × LI × Unit) → Option ((Unit) × (LL × Unit))) : Ctx := ⟨a2X tabl, [⟨101, Aa0.sig, Aa0.F⟩, ⟨183, Aa7.sig, Aa7.F⟩, ⟨184, Ac3.sig, Ac3.F⟩, ⟨152, Ab2.sigF, Ab2.F⟩, ⟨94, sig, self⟩], [], [], [], []⟩
noncomputable def cfg (self : (LL × LI × Unit) → Option ((Unit) × (LL × Unit))) : Cfg := ⟨(ctx self), [0], [], fun id => match id with | 2 => ([0, 1, 4], [0]) | 6 => ([0, 1, 5], [0]) | _ => ([], []), fun _ => []⟩
noncomputable def code : Code := (f94).body.getD .skip
noncomputable def fin (self : (LL × LI × Unit) → Option ((Unit) × (LL × Unit))) := finK (ctx self) sig []
noncomputable def step (self : (LL × LI × Unit) → Option ((Unit) × (LL × Unit))) (d : LL × LI × Unit) : Option ((Unit) × (LL × Unit)) := anyK (a9q (cfg self) (fin self) code (a5e sig.ps d 71))
variable (self : (LL × LI × Unit) → Option ((Unit) × (LL × Unit))) (k : Nat) (x4 : LI) (i5 : Int) (x6 : LL)
noncomputable def l2 : Option ((Unit) × (LL × Unit)) := Vm.runT (cfg self) (fin self) k [.inLoop (sub [1, 0, 1, 0, 0] code), .inBlock 0, .code (sub [1, 1] code)] ⟨[.ref 0 (.root 0), vL x4, dD, dD, vI i5] ++ a8I 66, [(0, ⟨true, [⟨tQ, .shal, x6⟩]⟩)]⟩
variable (x9 : LI) (i10 : Int) (x11 : LL)
noncomputable def l6 : Option ((Unit) × (LL × Unit)) := Vm.runT (cfg self) (fin self) k [.inLoop (sub [1, 1, 1, 0, 0, 0] code), .inBlock 2, .code (sub [1, 1, 1, 1] code)] ⟨[.ref 0 (.root 0), vL x9, dD, dD, dD, vI i10] ++ a8I 65, [(0, ⟨true, [⟨tQ, .shal, x11⟩]⟩)]⟩
theorem l2_eq : l2 self (k + 1) x4 i5 x6 = if (decide (i5 < (x4.length : Int))) = true then if (decide ((x4.length : Int) > 1)) = true then (Ac3.F (x4, i5, ())).bind fun r7 => (self (x6, r7.1.1, ())).bind fun r8 => l2 self k x4 (IntKind.i64.wrap (i5 + 1)) r8.2.1 else l6 self k x4 (0 : Int) x6 else l6 self k x4 (0 : Int) x6 := by kernel_rfl
theorem l6_eq : l6 self (k + 1) x9 i10 x11 = if (decide (i10 < (x11.length : Int))) = true then if 0 ≤ i10 ∧ i10 < (x11.length : Int) then (Aa7.F (x11.getD i10.toNat ([] : LI), x9, ())).bind fun r12 => if r12.1.1 = true then l6 self k x9 (IntKind.i64.wrap (i10 + 1)) x11 else if 0 ≤ (0 : Int) ∧ (0 : Int) ≤ i10 ∧ i10 ≤ (x11.length : Int) then if ([] : LL).length + (cutL x11 (0 : Int) i10).length ≤ bigA then (Ab2.F (x9, ())).bind fun r13 => if (([] : LL) ++ (cutL x11 (0 : Int) i10)).length + [r13.1.1].length ≤ bigA then if 0 ≤ i10 ∧ i10 ≤ (x11.length : Int) ∧ (x11.length : Int) ≤ (x11.length : Int) then if ((([] : LL) ++ (cutL x11 (0 : Int) i10)) ++ [r13.1.1]).length + (cutL x11 i10 (x11.length : Int)).length ≤ bigA then let y14 : LL := ((([] : LL) ++ (cutL x11 (0 : Int) i10)) ++ [r13.1.1]) ++ (cutL x11 i10 (x11.length : Int)); some ((), (y14, ())) else none else none else none else none else none else none else if 0 ≤ (0 : Int) ∧ (0 : Int) ≤ i10 ∧ i10 ≤ (x11.length : Int) then if ([] : LL).length + (cutL x11 (0 : Int) i10).length ≤ bigA then (Ab2.F (x9, ())).bind fun r15 => if (([] : LL) ++ (cutL x11 (0 : Int) i10)).length + [r15.1.1].length ≤ bigA then if 0 ≤ i10 ∧ i10 ≤ (x11.length : Int) ∧ (x11.length : Int) ≤ (x11.length : Int) then if ((([] : LL) ++ (cutL x11 (0 : Int) i10)) ++ [r15.1.1]).length + (cutL x11 i10 (x11.length : Int)).length ≤ bigA then let y16 : LL := ((([] : LL) ++ (cutL x11 (0 : Int) i10)) ++ [r15.1.1]) ++ (cutL x11 i10 (x11.length : Int)); some ((), (y16, ())) else none else none else none else none else none := by kernel_rfl
variable (toArray_1 : LL) (a_2 : LI)
noncomputable def T : Option ((Unit) × (LL × Unit)) := (Aa0.F (toArray_1, a_2, ())).bind fun r3 => if (decide (r3.1.1 ≥ 0)) = true then some ((), (toArray_1, ())) else l2 self k a_2 (0 : Int) toArray_1
theorem run (self : (LL × LI × Unit) → Option ((Unit) × (LL × Unit))) (k : Nat) (toArray_1 : LL) (a_2 : LI) : a9q (cfg self) (fin self) code (a5e sig.ps (toArray_1, a_2, ()) 71) k = T self k toArray_1 a_2 := by kernel_rfl
theorem of {r} (h : Ev (fun k => T self k toArray_1 a_2) r) : step self (toArray_1, a_2, ()) = some r := Ev.run (fun k => run self k toArray_1 a_2) h
theorem ok (self : (LL × LI × Unit) → Option ((Unit) × (LL × Unit))) (hs : a3x prog ⟨94, sig, self⟩) : CtxOK prog (ctx self) := ⟨nilM, mixed_ok, tab_ok tab_good, consM ⟨Aa0.S, consM ⟨Aa7.S, consM ⟨Ac3.S, consM ⟨Ab2.SF, consM ⟨hs, nilM⟩⟩⟩⟩⟩, nilM, nilM⟩
theorem stepS (self : (LL × LI × Unit) → Option ((Unit) × (LL × Unit))) (hs : a3x prog ⟨94, sig, self⟩) : a3x prog ⟨94, sig, step self⟩ := b2f (fn := f94) (code := code) (g := cfg self) (res := []) func94 (by kernel_rfl) (by kernel_rfl) (ok self hs) (by kernel_rfl) (by kernel_rfl) (Nat.le_of_ble_eq_true (by kernel_rfl)) (by kernel_rfl)
noncomputable def R : Nat → (LL × LI × Unit) → Option ((Unit) × (LL × Unit)) := recF step
noncomputable def F (d : LL × LI × Unit) : Option ((Unit) × (LL × Unit)) := anyE fun q => R q d
theorem ofR {d : LL × LI × Unit} {r : (Unit) × (LL × Unit)} (h : Ev (fun q => R q d) r) : F d = some r := anyE_of h
theorem S : a3x prog ⟨94, sig, F⟩ := sound_rec ⟨_, func94, by kernel_rfl, by kernel_rfl⟩ fun self h => stepS self h
end Aa1
namespace Ac1
noncomputable def sig : Sig := ⟨[pC, pC, pL], [(.val true, tQ, .sh), oI]⟩
noncomputable def cfg : Cfg := ⟨cx [⟨92, Aa2.sig, Aa2.F⟩, ⟨93, Ad0.sig, Ad0.F⟩, ⟨94, Aa1.sig, Aa1.F⟩, ⟨95, Ab7.sig, Ab7.F⟩], [], [], fun id => match id with | 7 => ([2, 3, 6, 8, 9], [12, 24, 32]) | _ => ([], []), fun id => match id with | 7 => [32] | _ => []⟩
noncomputable def fin := finK cfg.c sig [.cell 6 32, .tmp 7]
noncomputable def F (d : LL × LL × LI × Unit) : Option ((LL × Int × Unit) × (Unit)) := anyK (a9q cfg fin (bd f42) (a5e sig.ps d 39))
variable (k : Nat) (x7 : LI) (i8 : Int) (x9 x10 x11 : LL)
noncomputable def l7 : Option ((LL × Int × Unit) × (Unit)) := Vm.runT cfg fin k [.inLoop (sub [1, 1, 1, 1, 0, 1, 0, 0] (bd f42)), .inBlock 0, .code (sub [1, 1, 1, 1, 1] (bd f42))] ⟨[dD, dD, vL x7, .ref 12 (.root 0), dD, dD, .ref 24 (.root 0), dD, .ref 32 (.root 0), vI i8] ++ a8I 29, [(12, ⟨true, [cQ x9]⟩), (24, ⟨true, [dQ x10]⟩), (32, ⟨true, [⟨tQ, .shal, x11⟩]⟩)]⟩
theorem l7_eq : l7 (k + 1) x7 i8 x9 x10 x11 = if (decide (i8 < (x9.length : Int))) = true then if 0 ≤ i8 ∧ i8 < (x9.length : Int) then (Ab7.F (x9, x7, x9.getD i8.toNat ([] : LI), ())).bind fun r12 => (Aa1.F (x11, r12.1.1, ())).bind fun r13 => l7 k x7 (IntKind.i64.wrap (i8 + 1)) x9 x10 r13.2.1 else none else some ((x11, ((0 : Int), ())), ()) := by kernel_rfl
variable (c_1 base_2 : LL) (images_3 : LI)
noncomputable def T : Option ((LL × Int × Unit) × (Unit)) := (Aa2.F (c_1, ())).bind fun r4 => if (!r4.1.1) = true then some (([], ((1 : Int), ())), ()) else (Aa2.F (base_2, ())).bind fun r5 => if (!r5.1.1) = true then some (([], ((1 : Int), ())), ()) else (Ad0.F (c_1, base_2, images_3, ())).bind fun r6 => if (!r6.1.1) = true then some (([], ((6 : Int), ())), ()) else l7 k images_3 (0 : Int) c_1 ([] : LL) ([] : LL)
theorem of {r} (h : Ev (fun k => T k c_1 base_2 images_3) r) : F (c_1, base_2, images_3, ()) = some r := Ev.run (fun k => by kernel_rfl) h
theorem S : a3x prog ⟨42, sig, F⟩ := sound_k (res := [.cell 6 32, .tmp 7]) func42 (cok (cM ⟨Aa2.S, cM ⟨Ad0.S, cM ⟨Aa1.S, cM ⟨Ab7.S, nM⟩⟩⟩⟩))
end Ac1
namespace Ae1
noncomputable def sig : Sig := ⟨[pL, .fnx ⟨[(false, tI)], [oB]⟩], [oI]⟩
noncomputable def cfg : Cfg := cl (cx []) fun id => match id with | 2 => ([0, 1, 7, 8], []) | _ => ([], [])
noncomputable def fin := finK cfg.c sig [.tmp 4]
noncomputable def F (d : LI × ((Int × Unit) → Option (Bool × Unit)) × Unit) : OI := anyK (a9q cfg fin (bd f209) (a5e sig.ps d 19))
variable (k : Nat) (x3 : LI) (f4 : (Int × Unit) → Option (Bool × Unit)) (i5 i6 : Int)
noncomputable def l2 : OI := Vm.runT cfg fin k [.inLoop (sub [1, 0, 1, 0, 0] (bd f209)), .inBlock 0, .code (sub [1, 1] (bd f209))] ⟨[vL x3, .fnx ⟨[(false, tI)], [(.val false, .bool, .deep)]⟩ f4, dD, dD, dD, dD, dD, vI i5, vI i6] ++ a8I 10, []⟩
theorem l2_eq : l2 (k + 1) x3 f4 i5 i6 = if (decide (i6 < i5)) = true then if 0 ≤ i6 ∧ i6 < (x3.length : Int) then (f4 ((x3.getD i6.toNat 0 : Int), ())).bind fun r7 => if r7.1 = true then some ((i6, ()), ()) else l2 k x3 f4 i5 (IntKind.i64.wrap (i6 + 1)) else none else some (((-1 : Int), ()), ()) := by kernel_rfl
variable (s_1 : LI) (f_2 : (Int × Unit) → Option (Bool × Unit))
noncomputable def T : OI := l2 k s_1 f_2 (s_1.length : Int) (0 : Int)
theorem of {r} (h : Ev (fun k => T k s_1 f_2) r) : F (s_1, f_2, ()) = some r := Ev.run (fun k => by kernel_rfl) h
theorem S : a3x prog ⟨209, sig, F⟩ := sound_k (res := [.tmp 4]) func209 (cok nM)
end Ae1
namespace Ag0
noncomputable def sig : Sig := ⟨[pL, .fnx ⟨[(false, tI)], [oB]⟩], [oB]⟩
noncomputable def cfg : Cfg := cf (cx [⟨209, Ae1.sig, Ae1.F⟩])
noncomputable def fin := finK cfg.c sig [.tmp 4]
noncomputable def F (d : LI × ((Int × Unit) → Option (Bool × Unit)) × Unit) : OB := anyK (a9q cfg fin (bd f119) (a5e sig.ps d 9))
variable (s_1 : LI) (f_2 : (Int × Unit) → Option (Bool × Unit))
noncomputable def T : OB := (Ae1.F (s_1, f_2, ())).bind fun r3 => some ((decide (r3.1.1 ≥ 0), ()), ())
theorem eq : F (s_1, f_2, ()) = T s_1 f_2 := eq_any fun k => by kernel_rfl
theorem S : a3x prog ⟨119, sig, F⟩ := sound_k (res := [.tmp 4]) func119 (cok (cM ⟨Ae1.S, nM⟩))
end Ag0
namespace Ac6
noncomputable def sig : Sig := ⟨[pL], [oB]⟩
noncomputable def cfg : Cfg := cl (cx []) fun id => match id with | 2 => ([0, 3], []) | _ => ([], [])
noncomputable def fin := finK cfg.c sig [.tmp 2]
noncomputable def F (d : LI × Unit) : OB := anyK (a9q cfg fin (bd f267) (a5e sig.ps d 20))
variable (k : Nat) (x2 : LI) (i3 : Int)
noncomputable def l2 : OB := Vm.runT cfg fin k [.inLoop (sub [1, 0, 1, 0, 0] (bd f267)), .inBlock 0, .code (sub [1, 1] (bd f267))] ⟨[vL x2, dD, dD, vI i3] ++ a8I 16, []⟩
theorem l2_eq : l2 (k + 1) x2 i3 = if (decide (i3 < (x2.length : Int))) = true then if 0 ≤ (IntKind.i64.wrap (i3 - 1)) ∧ (IntKind.i64.wrap (i3 - 1)) < (x2.length : Int) then if 0 ≤ i3 ∧ i3 < (x2.length : Int) then if (decide ((x2.getD (IntKind.i64.wrap (i3 - 1)).toNat 0) ≥ (x2.getD i3.toNat 0 : Int))) = true then some ((false, ()), ()) else l2 k x2 (IntKind.i64.wrap (i3 + 1)) else none else none else some ((true, ()), ()) := by kernel_rfl
variable (list_1 : LI)
noncomputable def T : OB := l2 k list_1 (1 : Int)
theorem of {r} (h : Ev (fun k => T k list_1) r) : F (list_1, ()) = some r := Ev.run (fun k => by kernel_rfl) h
theorem S : a3x prog ⟨267, sig, F⟩ := sound_k (res := [.tmp 2]) func267 (cok nM)
end Ac6
namespace Af5
noncomputable def sig : Sig := ⟨[pI, pI, pI], [oB]⟩
noncomputable def cfg : Cfg := cf (cx [])
noncomputable def fin := finK cfg.c sig [.tmp 6]
noncomputable def F (d : Int × Int × Int × Unit) : OB := anyK (a9q cfg fin (bd f121) (a5e sig.ps d 15))
variable (n_1 low_2 high_3 : Int)
noncomputable def T : OB := if (decide (n_1 ≥ low_2)) = true then some ((decide (n_1 ≤ high_3), ()), ()) else some ((false, ()), ())
theorem eq : F (n_1, low_2, high_3, ()) = T n_1 low_2 high_3 := eq_any fun k => by kernel_rfl
theorem S : a3x prog ⟨121, sig, F⟩ := sound_k (res := [.tmp 6]) func121 (cok nM)
end Af5
namespace Ag8
noncomputable def sig : Sig := ⟨[pI], [oB]⟩
noncomputable def cfg : Cfg := cf (cx [⟨121, Af5.sig, Af5.F⟩])
noncomputable def fin := finK cfg.c sig [.tmp 2]
noncomputable def F (d : Int × Unit) : OB := anyK (a9q cfg fin (bd f269) (a5e sig.ps d 5))
variable (v_1 : Int)
noncomputable def T : OB := (Af5.F (v_1, (0 : Int), (9 : Int), ())).bind fun r2 => some ((r2.1.1, ()), ())
theorem eq : F (v_1, ()) = T v_1 := eq_any fun k => by kernel_rfl
theorem S : a3x prog ⟨269, sig, F⟩ := sound_k (res := [.tmp 2]) func269 (cok (cM ⟨Af5.S, nM⟩))
end Ag8
namespace Ag6
noncomputable def sig : Sig := ⟨[pI], [oB]⟩
noncomputable def cfg : Cfg := cf (cx [⟨269, Ag8.sig, Ag8.F⟩])
noncomputable def fin := finK cfg.c sig [.tmp 2]
noncomputable def F (d : Int × Unit) : OB := anyK (a9q cfg fin (bd f268) (a5e sig.ps d 6))
variable (v_1 : Int)
noncomputable def T : OB := (Ag8.F (v_1, ())).bind fun r2 => some ((!r2.1.1, ()), ())
theorem eq : F (v_1, ()) = T v_1 := eq_any fun k => by kernel_rfl
theorem S : a3x prog ⟨268, sig, F⟩ := sound_k (res := [.tmp 2]) func268 (cok (cM ⟨Ag8.S, nM⟩))
noncomputable def cloG (y : Unit) (d : Int × Unit) : Option (Bool × Unit) := (F (a9c [] [(false, tI)] d y)).map (·.1)
noncomputable def clo : Clo := ⟨268, ⟨[(false, tI)], [(.val false, .bool, .deep)]⟩, [], cloG⟩
theorem cloS : a2b prog clo := sound_clo (s := ⟨[(false, tI)], [(.val false, .bool, .deep)]⟩) (caps := []) rfl S
end Ag6
namespace Af2
noncomputable def sig : Sig := ⟨[pL], [oB]⟩
noncomputable def cfg : Cfg := cf ⟨a2X tabl, [⟨119, Ag0.sig, Ag0.F⟩, ⟨267, Ac6.sig, Ac6.F⟩], [Ag6.clo], [], [], []⟩
noncomputable def fin := finK cfg.c sig [.tmp 2]
noncomputable def F (d : LI × Unit) : OB := anyK (a9q cfg fin (bd f194) (a5e sig.ps d 20))
variable (s_1 : LI)
noncomputable def T : OB := if (decide ((s_1.length : Int) ≥ 1)) = true then if (decide ((s_1.length : Int) ≤ 4)) = true then (Ac6.F (s_1, ())).bind fun r2 => if r2.1.1 = true then (Ag0.F (s_1, Ag6.cloG (()), ())).bind fun r3 => some ((!r3.1.1, ()), ()) else some ((false, ()), ()) else some ((false, ()), ()) else some ((false, ()), ())
theorem eq : F (s_1, ()) = T s_1 := eq_any fun k => by kernel_rfl
theorem S : a3x prog ⟨194, sig, F⟩ := sound_k (res := [.tmp 2]) func194 (⟨nM, mixed_ok, tab_ok tab_good, cM ⟨Ag0.S, cM ⟨Ac6.S, nM⟩⟩, cM ⟨Ag6.cloS, nM⟩, nM⟩)
end Af2
namespace Ad1
noncomputable def sig : Sig := ⟨[pL], [oI]⟩
noncomputable def cfg : Cfg := cl (cx []) fun id => match id with | 3 => ([3, 6, 7, 8], []) | _ => ([], [])
noncomputable def fin := finK cfg.c sig [.tmp 2]
noncomputable def F (d : LI × Unit) : OI := anyK (a9q cfg fin (bd f270) (a5e sig.ps d 18))
variable (k : Nat) (i2 : Int) (x3 : LI) (i4 i5 : Int)
noncomputable def l3 : OI := Vm.runT cfg fin k [.inLoop (sub [1, 1, 0, 1, 0, 0] (bd f270)), .inBlock 0, .code (sub [1, 1, 1] (bd f270))] ⟨[dD, dD, dD, vI i2, dD, dD, vL x3, vI i4, vI i5] ++ a8I 9, []⟩
theorem l3_eq : l3 (k + 1) i2 x3 i4 i5 = if (decide (i5 < i4)) = true then if 0 ≤ i5 ∧ i5 < (x3.length : Int) then if ((x3.getD i5.toNat 0 : Int) != i2) = true then some (((x3.getD i5.toNat 0 : Int), ()), ()) else l3 k i2 x3 i4 (IntKind.i64.wrap (i5 + 1)) else none else some ((i2, ()), ()) := by kernel_rfl
variable (vals_1 : LI)
noncomputable def T : OI := l3 k (0 : Int) vals_1 (vals_1.length : Int) (0 : Int)
theorem of {r} (h : Ev (fun k => T k vals_1) r) : F (vals_1, ()) = some r := Ev.run (fun k => by kernel_rfl) h
theorem S : a3x prog ⟨270, sig, F⟩ := sound_k (res := [.tmp 2]) func270 (cok nM)
end Ad1
namespace Ae9
noncomputable def sig : Sig := ⟨[pI], [oB]⟩
noncomputable def cfg : Cfg := cf (cx [])
noncomputable def fin := finK cfg.c sig [.tmp 2]
noncomputable def F (d : Int × Unit) : OB := anyK (a9q cfg fin (bd f291) (a5e sig.ps d 6))
variable (x_1 : Int)
noncomputable def T : OB := some ((x_1 != x_1, ()), ())
theorem eq : F (x_1, ()) = T x_1 := eq_any fun k => by kernel_rfl
theorem S : a3x prog ⟨291, sig, F⟩ := sound_k (res := [.tmp 2]) func291 (cok nM)
end Ae9
namespace Ae7
noncomputable def sig : Sig := ⟨[pI, pI], [oI]⟩
noncomputable def cfg : Cfg := cf (cx [⟨291, Ae9.sig, Ae9.F⟩])
noncomputable def fin := finK cfg.c sig [.tmp 4]
noncomputable def F (d : Int × Int × Unit) : OI := anyK (a9q cfg fin (bd f271) (a5e sig.ps d 20))
variable (x_1 y_2 : Int)
noncomputable def T : OI := (Ae9.F (x_1, ())).bind fun r3 => (Ae9.F (y_2, ())).bind fun r4 => if r3.1.1 = true then if r4.1.1 = true then some ((0, ()), ()) else some (((-1 : Int), ()), ()) else if r4.1.1 = true then some ((1, ()), ()) else if (decide (x_1 < y_2)) = true then some (((-1 : Int), ()), ()) else if (decide (x_1 > y_2)) = true then some ((1, ()), ()) else some ((0, ()), ())
theorem eq : F (x_1, y_2, ()) = T x_1 y_2 := eq_any fun k => by kernel_rfl
theorem S : a3x prog ⟨271, sig, F⟩ := sound_k (res := [.tmp 4]) func271 (cok (cM ⟨Ae9.S, nM⟩))
end Ae7
namespace Af0
noncomputable def sig : Sig := ⟨[pI], [oB]⟩
noncomputable def cfg : Cfg := cf (cx [])
noncomputable def fin := finK cfg.c sig [.tmp 2]
noncomputable def F (d : Int × Unit) : OB := anyK (a9q cfg fin (bd f314) (a5e sig.ps d 6))
variable (x_1 : Int)
noncomputable def T : OB := some ((x_1 != x_1, ()), ())
theorem eq : F (x_1, ()) = T x_1 := eq_any fun k => by kernel_rfl
theorem S : a3x prog ⟨314, sig, F⟩ := sound_k (res := [.tmp 2]) func314 (cok nM)
end Af0
namespace Ae8
noncomputable def sig : Sig := ⟨[pI, pI], [oI]⟩
noncomputable def cfg : Cfg := cf (cx [⟨314, Af0.sig, Af0.F⟩])
noncomputable def fin := finK cfg.c sig [.tmp 4]
noncomputable def F (d : Int × Int × Unit) : OI := anyK (a9q cfg fin (bd f292) (a5e sig.ps d 20))
variable (x_1 y_2 : Int)
noncomputable def T : OI := (Af0.F (x_1, ())).bind fun r3 => (Af0.F (y_2, ())).bind fun r4 => if r3.1.1 = true then if r4.1.1 = true then some ((0, ()), ()) else some (((-1 : Int), ()), ()) else if r4.1.1 = true then some ((1, ()), ()) else if (decide (x_1 < y_2)) = true then some (((-1 : Int), ()), ()) else if (decide (x_1 > y_2)) = true then some ((1, ()), ()) else some ((0, ()), ())
theorem eq : F (x_1, y_2, ()) = T x_1 y_2 := eq_any fun k => by kernel_rfl
theorem S : a3x prog ⟨292, sig, F⟩ := sound_k (res := [.tmp 4]) func292 (cok (cM ⟨Af0.S, nM⟩))
end Ae8
namespace Ad4
noncomputable def sig : Sig := ⟨[pL, pL], [oI]⟩
noncomputable def cfg : Cfg := cl (cx [⟨292, Ae8.sig, Ae8.F⟩]) fun id => match id with | 2 => ([0, 1, 9, 10, 11], []) | _ => ([], [])
noncomputable def fin := finK cfg.c sig [.tmp 4]
noncomputable def F (d : LI × LI × Unit) : OI := anyK (a9q cfg fin (bd f272) (a5e sig.ps d 36))
variable (k : Nat) (x3 x4 x5 : LI) (i6 i7 : Int)
noncomputable def l2 : OI := Vm.runT cfg fin k [.inLoop (sub [1, 0, 1, 0, 0] (bd f272)), .inBlock 0, .code (sub [1, 1] (bd f272))] ⟨[vL x3, vL x4, dD, dD, dD, dD, dD, dD, dD, vL x5, vI i6, vI i7] ++ a8I 24, []⟩
theorem l2_eq : l2 (k + 1) x3 x4 x5 i6 i7 = if (decide (i7 < i6)) = true then if 0 ≤ i7 ∧ i7 < (x5.length : Int) then if (decide (i7 ≥ (x4.length : Int))) = true then some ((1, ()), ()) else if 0 ≤ i7 ∧ i7 < (x4.length : Int) then (Ae8.F ((x5.getD i7.toNat 0 : Int), (x4.getD i7.toNat 0 : Int), ())).bind fun r8 => if (r8.1.1 != 0) = true then some ((r8.1.1, ()), ()) else l2 k x3 x4 x5 i6 (IntKind.i64.wrap (i7 + 1)) else none else none else if (decide ((x3.length : Int) < (x4.length : Int))) = true then some (((-1 : Int), ()), ()) else some ((0, ()), ()) := by kernel_rfl
variable (s1_1 s2_2 : LI)
noncomputable def T : OI := l2 k s1_1 s2_2 s1_1 (s1_1.length : Int) (0 : Int)
theorem of {r} (h : Ev (fun k => T k s1_1 s2_2) r) : F (s1_1, s2_2, ()) = some r := Ev.run (fun k => by kernel_rfl) h
theorem S : a3x prog ⟨272, sig, F⟩ := sound_k (res := [.tmp 4]) func272 (cok (cM ⟨Ae8.S, nM⟩))
end Ad4
namespace Aa3
noncomputable def sig : Sig := ⟨[pL, pL], [oI]⟩
noncomputable def cfg : Cfg := cf (cx [⟨270, Ad1.sig, Ad1.F⟩, ⟨271, Ae7.sig, Ae7.F⟩, ⟨272, Ad4.sig, Ad4.F⟩])
noncomputable def fin := finK cfg.c sig [.tmp 4]
noncomputable def F (d : LI × LI × Unit) : OI := anyK (a9q cfg fin (bd f195) (a5e sig.ps d 15))
variable (a_1 b_2 : LI)
noncomputable def T : OI := (Ae7.F ((a_1.length : Int), (b_2.length : Int), ())).bind fun r3 => (Ad4.F (a_1, b_2, ())).bind fun r4 => (Ad1.F ([r3.1.1, r4.1.1], ())).bind fun r5 => some ((r5.1.1, ()), ())
theorem eq : F (a_1, b_2, ()) = T a_1 b_2 := eq_any fun k => by kernel_rfl
theorem S : a3x prog ⟨195, sig, F⟩ := sound_k (res := [.tmp 4]) func195 (cok (cM ⟨Ad1.S, cM ⟨Ae7.S, cM ⟨Ad4.S, nM⟩⟩⟩))
noncomputable def cloG (y : Unit) (d : LI × LI × Unit) : Option (Int × Unit) := (F (a9c [] [(false, tL), (false, tL)] d y)).map (·.1)
noncomputable def clo : Clo := ⟨195, ⟨[(false, tL), (false, tL)], [(.val false, tI, .deep)]⟩, [], cloG⟩
theorem cloS : a2b prog clo := sound_clo (s := ⟨[(false, tL), (false, tL)], [(.val false, tI, .deep)]⟩) (caps := []) rfl S
end Aa3
namespace Ae0
noncomputable def sig : Sig := ⟨[pQ, .fnx ⟨[(false, tL)], [oB]⟩], [oI]⟩
noncomputable def cfg : Cfg := cl (cx []) fun id => match id with | 2 => ([0, 1, 7, 8], []) | _ => ([], [])
noncomputable def fin := finK cfg.c sig [.tmp 4]
noncomputable def F (d : LL × ((LI × Unit) → Option (Bool × Unit)) × Unit) : OI := anyK (a9q cfg fin (bd f239) (a5e sig.ps d 19))
variable (k : Nat) (x3 : LL) (f4 : (LI × Unit) → Option (Bool × Unit)) (i5 i6 : Int)
noncomputable def l2 : OI := Vm.runT cfg fin k [.inLoop (sub [1, 0, 1, 0, 0] (bd f239)), .inBlock 0, .code (sub [1, 1] (bd f239))] ⟨[vQ x3, .fnx ⟨[(false, tL)], [(.val false, .bool, .deep)]⟩ f4, dD, dD, dD, dD, dD, vI i5, vI i6] ++ a8I 10, []⟩
theorem l2_eq : l2 (k + 1) x3 f4 i5 i6 = if (decide (i6 < i5)) = true then if 0 ≤ i6 ∧ i6 < (x3.length : Int) then (f4 (x3.getD i6.toNat ([] : LI), ())).bind fun r7 => if r7.1 = true then some ((i6, ()), ()) else l2 k x3 f4 i5 (IntKind.i64.wrap (i6 + 1)) else none else some (((-1 : Int), ()), ()) := by kernel_rfl
variable (s_1 : LL) (f_2 : (LI × Unit) → Option (Bool × Unit))
noncomputable def T : OI := l2 k s_1 f_2 (s_1.length : Int) (0 : Int)
theorem of {r} (h : Ev (fun k => T k s_1 f_2) r) : F (s_1, f_2, ()) = some r := Ev.run (fun k => by kernel_rfl) h
theorem S : a3x prog ⟨239, sig, F⟩ := sound_k (res := [.tmp 4]) func239 (cok nM)
end Ae0
namespace Ab9
noncomputable def sig : Sig := ⟨[pQ, .fnx ⟨[(false, tL)], [oB]⟩], [oB]⟩
noncomputable def cfg : Cfg := cf (cx [⟨239, Ae0.sig, Ae0.F⟩])
noncomputable def fin := finK cfg.c sig [.tmp 4]
noncomputable def F (d : LL × ((LI × Unit) → Option (Bool × Unit)) × Unit) : OB := anyK (a9q cfg fin (bd f196) (a5e sig.ps d 9))
variable (s_1 : LL) (f_2 : (LI × Unit) → Option (Bool × Unit))
noncomputable def T : OB := (Ae0.F (s_1, f_2, ())).bind fun r3 => some ((decide (r3.1.1 ≥ 0), ()), ())
theorem eq : F (s_1, f_2, ()) = T s_1 f_2 := eq_any fun k => by kernel_rfl
theorem S : a3x prog ⟨196, sig, F⟩ := sound_k (res := [.tmp 4]) func196 (cok (cM ⟨Ae0.S, nM⟩))
end Ab9
namespace Ab6
noncomputable def sig : Sig := ⟨[pQ], [oL]⟩
noncomputable def cfg : Cfg := cl (⟨a2X tabl, [], [], [], [(293, tI)], []⟩) fun id => match id with | 3 => ([0, 3, 9, 10, 11], []) | 11 => ([6, 25, 26, 27], [24]) | _ => ([], [])
noncomputable def fin := finK cfg.c sig [.tmp 2]
noncomputable def F (d : LL × Unit) : OL := anyK (a9q cfg fin (bd f273) (a5e sig.ps d 36))
variable (k : Nat) (x2 : LL) (i3 : Int) (x4 : LL) (i5 i6 : Int)
noncomputable def l3 : OL := Vm.runT cfg fin k [.inLoop (sub [1, 1, 0, 1, 0, 0] (bd f273)), .inBlock 0, .code (sub [1, 1, 1] (bd f273))] ⟨[vQ x2, dD, dD, vI i3, dD, dD, dD, dD, dD, vQ x4, vI i5, vI i6] ++ a8I 24, []⟩
variable (x7 : LL) (i8 i9 : Int) (x10 : LI)
noncomputable def l11 : OL := Vm.runT cfg fin k [.inLoop (sub [1, 1, 1, 1, 0, 1, 0, 0] (bd f273)), .inBlock 2, .code (sub [1, 1, 1, 1, 1] (bd f273))] ⟨[dD, dD, dD, dD, dD, dD, .view 24 (.root 0) 1 false, dD, dD, dD, dD, dD, dD, dD, dD, dD, dD, dD, dD, dD, dD, dD, dD, dD, dD, vQ x7, vI i8, vI i9] ++ a8I 8, [(24, ⟨false, [dL x10]⟩)]⟩
theorem l3_eq : l3 (k + 1) x2 i3 x4 i5 i6 = if (decide (i6 < i5)) = true then if 0 ≤ i6 ∧ i6 < (x4.length : Int) then if (decide ((IntKind.i64.wrap (i3 + ((x4.getD i6.toNat ([] : LI)).length : Int))) < 0)) = true then none else l3 k x2 (IntKind.i64.wrap (i3 + ((x4.getD i6.toNat ([] : LI)).length : Int))) x4 i5 (IntKind.i64.wrap (i6 + 1)) else none else if 0 ≤ i3 ∧ i3 ≤ (bigN : Int) then l11 k x2 (x2.length : Int) (0 : Int) ([] : LI) else none := by kernel_rfl
theorem l11_eq : l11 (k + 1) x7 i8 i9 x10 = if (decide (i9 < i8)) = true then if 0 ≤ i9 ∧ i9 < (x7.length : Int) then if x10.length + (x7.getD i9.toNat ([] : LI)).length ≤ bigA then l11 k x7 i8 (IntKind.i64.wrap (i9 + 1)) (x10 ++ (x7.getD i9.toNat ([] : LI))) else none else none else some ((x10, ()), ()) := by kernel_rfl
variable (slices_1 : LL)
noncomputable def T : OL := l3 k slices_1 (0 : Int) slices_1 (slices_1.length : Int) (0 : Int)
theorem of {r} (h : Ev (fun k => T k slices_1) r) : F (slices_1, ()) = some r := Ev.run (fun k => by kernel_rfl) h
theorem S : a3x prog ⟨273, sig, F⟩ := sound_k (res := [.tmp 2]) func273 (⟨nM, mixed_ok, tab_ok tab_good, nM, nM, cM ⟨slices_Grow_Lint64_int64.growOK, nM⟩⟩)
end Ab6
namespace Ab4
noncomputable def sig : Sig := ⟨[pL], [oQ]⟩
noncomputable def cfg : Cfg := cl (cx [⟨273, Ab6.sig, Ab6.F⟩]) fun id => match id with | 3 => ([0, 3, 6, 7], [12]) | _ => ([], [])
noncomputable def fin := finK cfg.c sig [.tmp 2]
noncomputable def F (d : LI × Unit) : OQ := anyK (a9q cfg fin (bd f197) (a5e sig.ps d 27))
variable (k : Nat) (x2 : LI) (i3 i4 : Int) (x5 : LL)
noncomputable def l3 : OQ := Vm.runT cfg fin k [.inLoop (sub [1, 1, 0, 1, 0, 0] (bd f197)), .inBlock 0, .code (sub [1, 1, 1] (bd f197))] ⟨[vL x2, dD, dD, .view 12 (.root 0) 1 false, dD, dD, vI i3, vI i4] ++ a8I 19, [(12, ⟨false, [dQ x5]⟩)]⟩
theorem l3_eq : l3 (k + 1) x2 i3 i4 x5 = if (decide (i4 < i3)) = true then if (decide ((x2.length : Int) > 1)) = true then if 0 ≤ (0 : Int) ∧ (0 : Int) ≤ i4 ∧ i4 ≤ (x2.length : Int) then if 0 ≤ (IntKind.i64.wrap (i4 + 1)) ∧ (IntKind.i64.wrap (i4 + 1)) ≤ (x2.length : Int) ∧ (x2.length : Int) ≤ (x2.length : Int) then (Ab6.F ([cutL x2 (0 : Int) i4, cutL x2 (IntKind.i64.wrap (i4 + 1)) (x2.length : Int)], ())).bind fun r6 => if x5.length + [r6.1.1].length ≤ bigA then l3 k x2 i3 (IntKind.i64.wrap (i4 + 1)) (x5 ++ [r6.1.1]) else none else none else none else l3 k x2 i3 (IntKind.i64.wrap (i4 + 1)) x5 else some ((x5, ()), ()) := by kernel_rfl
variable (s_1 : LI)
noncomputable def T : OQ := l3 k s_1 (s_1.length : Int) (0 : Int) ([])
theorem of {r} (h : Ev (fun k => T k s_1) r) : F (s_1, ()) = some r := Ev.run (fun k => by kernel_rfl) h
theorem S : a3x prog ⟨197, sig, F⟩ := sound_k (res := [.tmp 2]) func197 (cok (cM ⟨Ab6.S, nM⟩))
end Ab4
namespace Af8
noncomputable def sig : Sig := ⟨[pQ, pL, .fnx ⟨[(false, tL), (false, tL)], [oI]⟩], [oI, oB]⟩
noncomputable def cfg : Cfg := cl (cx []) fun id => match id with | 3 => ([0, 1, 2, 8, 9, 10], []) | _ => ([], [])
noncomputable def fin := finK cfg.c sig [.tmp 6, .tmp 7]
noncomputable def F (d : LL × LI × ((LI × LI × Unit) → Option (Int × Unit)) × Unit) : Option ((Int × Bool × Unit) × (Unit)) := anyK (a9q cfg fin (bd f202) (a5e sig.ps d 49))
variable (k : Nat) (x4 : LL) (x5 : LI) (f6 : (LI × LI × Unit) → Option (Int × Unit)) (i7 i8 i9 : Int)
noncomputable def l3 : Option ((Int × Bool × Unit) × (Unit)) := Vm.runT cfg fin k [.inLoop (sub [1, 1, 1, 0, 0, 0] (bd f202)), .inBlock 0, .code (sub [1, 1, 1, 1] (bd f202))] ⟨[vQ x4, vL x5, .fnx ⟨[(false, tL), (false, tL)], [(.val false, tI, .deep)]⟩ f6, dD, dD, dD, dD, dD, vI i7, vI i8, vI i9] ++ a8I 38, []⟩
theorem l3_eq : l3 (k + 1) x4 x5 f6 i7 i8 i9 = if (decide (i8 < i9)) = true then if (1 : Int) < 0 then none else if 0 ≤ (IntKind.i64.wrap ((IntKind.u64.wrap (IntKind.i64.wrap (i8 + i9))).fdiv (2 ^ (min (1 : Int).toNat IntKind.u64.bits)))) ∧ (IntKind.i64.wrap ((IntKind.u64.wrap (IntKind.i64.wrap (i8 + i9))).fdiv (2 ^ (min (1 : Int).toNat IntKind.u64.bits)))) < (x4.length : Int) then (f6 (x4.getD (IntKind.i64.wrap ((IntKind.u64.wrap (IntKind.i64.wrap (i8 + i9))).fdiv (2 ^ (min (1 : Int).toNat IntKind.u64.bits)))).toNat ([] : LI), x5, ())).bind fun r10 => if (decide (r10.1 < 0)) = true then l3 k x4 x5 f6 i7 (IntKind.i64.wrap ((IntKind.i64.wrap ((IntKind.u64.wrap (IntKind.i64.wrap (i8 + i9))).fdiv (2 ^ (min (1 : Int).toNat IntKind.u64.bits)))) + 1)) i9 else l3 k x4 x5 f6 i7 i8 (IntKind.i64.wrap ((IntKind.u64.wrap (IntKind.i64.wrap (i8 + i9))).fdiv (2 ^ (min (1 : Int).toNat IntKind.u64.bits)))) else none else if (decide (i8 < i7)) = true then if 0 ≤ i8 ∧ i8 < (x4.length : Int) then (f6 (x4.getD i8.toNat ([] : LI), x5, ())).bind fun r11 => some ((i8, (r11.1 == (0 : Int), ())), ()) else none else some ((i8, (false, ())), ()) := by kernel_rfl
variable (x_1 : LL) (target_2 : LI) (f_3 : (LI × LI × Unit) → Option (Int × Unit))
noncomputable def T : Option ((Int × Bool × Unit) × (Unit)) := l3 k x_1 target_2 f_3 (x_1.length : Int) (0 : Int) (x_1.length : Int)
theorem of {r} (h : Ev (fun k => T k x_1 target_2 f_3) r) : F (x_1, target_2, f_3, ()) = some r := Ev.run (fun k => by kernel_rfl) h
theorem S : a3x prog ⟨202, sig, F⟩ := sound_k (res := [.tmp 6, .tmp 7]) func202 (cok nM)
end Af8
namespace Ac5
noncomputable def sig : Sig := ⟨[pC, pL], [oI]⟩
noncomputable def cfg : Cfg := cf ⟨a2X tabl, [⟨202, Af8.sig, Af8.F⟩], [Aa3.clo], [], [], []⟩
noncomputable def fin := finK cfg.c sig [.tmp 4]
noncomputable def F (d : LL × LI × Unit) : OI := anyK (a9q cfg fin (bd f107) (a5e sig.ps d 17))
variable (c_1 : LL) (s_2 : LI)
noncomputable def T : OI := (Af8.F (c_1, s_2, Aa3.cloG (()), ())).bind fun r3 => if (!r3.1.2.1) = true then some (((-1 : Int), ()), ()) else some ((r3.1.1, ()), ())
theorem eq : F (c_1, s_2, ()) = T c_1 s_2 := eq_any fun k => by kernel_rfl
theorem S : a3x prog ⟨107, sig, F⟩ := sound_k (res := [.tmp 4]) func107 (⟨nM, mixed_ok, tab_ok tab_good, cM ⟨Af8.S, nM⟩, cM ⟨Aa3.cloS, nM⟩, nM⟩)
end Ac5
namespace Af1
noncomputable def sig : Sig := ⟨[pL, qC, .rptr tI], [oB]⟩
noncomputable def cfg : Cfg := cf (cx [⟨107, Ac5.sig, Ac5.F⟩])
noncomputable def fin := finK cfg.c sig [.tmp 4]
noncomputable def F (d : LI × LL × Int × Unit) : OB := anyK (a9q cfg fin (bd f198) (a5e sig.ps d 13))
variable (f_1 : LI) (a_2 : LL) (a_3 : Int)
noncomputable def T : OB := if 0 ≤ (0 : Int) ∧ (0 : Int) ≤ a_3 ∧ a_3 ≤ (a_2.length : Int) then (Ac5.F (cutL a_2 (0 : Int) a_3, f_1, ())).bind fun r4 => some ((decide (r4.1.1 < 0), ()), ()) else none
theorem eq : F (f_1, a_2, a_3, ()) = T f_1 a_2 a_3 := eq_any fun k => by kernel_rfl
theorem S : a3x prog ⟨198, sig, F⟩ := sound_k (res := [.tmp 4]) func198 (cok (cM ⟨Ac5.S, nM⟩))
noncomputable def cloG (y : LL × Int × Unit) (d : LI × Unit) : Option (Bool × Unit) := (F (a9c [.rptr tQ, .rptr tI] [(false, tL)] d y)).map (·.1)
noncomputable def clo : Clo := ⟨198, ⟨[(false, tL)], [(.val false, .bool, .deep)]⟩, [.rptr tQ, .rptr tI], cloG⟩
theorem cloS : a2b prog clo := sound_clo (s := ⟨[(false, tL)], [(.val false, .bool, .deep)]⟩) (caps := [.rptr tQ, .rptr tI]) rfl S
end Af1
namespace Ab3
noncomputable def sig : Sig := ⟨[pC], [oB]⟩
noncomputable def cfg : Cfg := cl (⟨a2X tabl, [⟨194, Af2.sig, Af2.F⟩, ⟨195, Aa3.sig, Aa3.F⟩, ⟨196, Ab9.sig, Ab9.F⟩, ⟨197, Ab4.sig, Ab4.F⟩], [Af1.clo], [], [], []⟩) fun id => match id with | 2 => ([1, 6, 7, 8], [4]) | _ => ([], [])
noncomputable def fin := finK cfg.c sig [.tmp 2]
noncomputable def F (d : LL × Unit) : OB := anyK (a9q cfg fin (bd f104) (a5e sig.ps d 40))
variable (k : Nat) (x2 : LL) (i3 i4 : Int) (x5 : LL)
noncomputable def l2 : OB := Vm.runT cfg fin k [.inLoop (sub [1, 0, 1, 0, 0] (bd f104)), .inBlock 0, .code (sub [1, 1] (bd f104))] ⟨[dD, .ref 4 (.root 0), dD, dD, dD, dD, vQ x2, vI i3, vI i4] ++ a8I 31, [(4, ⟨true, [cQ x5]⟩)]⟩
theorem l2_eq : l2 (k + 1) x2 i3 i4 x5 = if (decide (i4 < i3)) = true then if 0 ≤ i4 ∧ i4 < (x2.length : Int) then (Af2.F (x2.getD i4.toNat ([] : LI), ())).bind fun r6 => if (!r6.1.1) = true then some ((false, ()), ()) else if (decide (i4 > 0)) = true then if 0 ≤ (IntKind.i64.wrap (i4 - 1)) ∧ (IntKind.i64.wrap (i4 - 1)) < (x5.length : Int) then (Aa3.F (x5.getD (IntKind.i64.wrap (i4 - 1)).toNat ([] : LI), x2.getD i4.toNat ([] : LI), ())).bind fun r7 => if (decide (r7.1.1 ≥ 0)) = true then some ((false, ()), ()) else (Ab4.F (x2.getD i4.toNat ([] : LI), ())).bind fun r8 => (Ab9.F (r8.1.1, Af1.cloG (x5, i4, ()), ())).bind fun r9 => if r9.1.1 = true then some ((false, ()), ()) else l2 k x2 i3 (IntKind.i64.wrap (i4 + 1)) x5 else none else (Ab4.F (x2.getD i4.toNat ([] : LI), ())).bind fun r10 => (Ab9.F (r10.1.1, Af1.cloG (x5, i4, ()), ())).bind fun r11 => if r11.1.1 = true then some ((false, ()), ()) else l2 k x2 i3 (IntKind.i64.wrap (i4 + 1)) x5 else none else some ((decide ((x5.length : Int) ≤ 48), ()), ()) := by kernel_rfl
variable (c_1 : LL)
noncomputable def T : OB := l2 k c_1 (c_1.length : Int) (0 : Int) c_1
theorem of {r} (h : Ev (fun k => T k c_1) r) : F (c_1, ()) = some r := Ev.run (fun k => by kernel_rfl) h
theorem S : a3x prog ⟨104, sig, F⟩ := sound_k (res := [.tmp 2]) func104 (⟨nM, mixed_ok, tab_ok tab_good, cM ⟨Af2.S, cM ⟨Aa3.S, cM ⟨Ab9.S, cM ⟨Ab4.S, nM⟩⟩⟩⟩, cM ⟨Af1.cloS, nM⟩, nM⟩)
end Ab3
namespace Ab5
noncomputable def sig : Sig := ⟨[pC], [oL]⟩
noncomputable def cfg : Cfg := cl (cx []) fun id => match id with | 3 => ([3, 7, 8, 9], [12]) | _ => ([], [])
noncomputable def fin := finK cfg.c sig [.tmp 2]
noncomputable def F (d : LL × Unit) : OL := anyK (a9q cfg fin (bd f200) (a5e sig.ps d 24))
variable (k : Nat) (x2 : LL) (i3 i4 : Int) (x5 : LI)
noncomputable def l3 : OL := Vm.runT cfg fin k [.inLoop (sub [1, 1, 0, 1, 0, 0] (bd f200)), .inBlock 0, .code (sub [1, 1, 1] (bd f200))] ⟨[dD, dD, dD, .view 12 (.root 0) 1 false, dD, dD, dD, vQ x2, vI i3, vI i4] ++ a8I 14, [(12, ⟨false, [dL x5]⟩)]⟩
theorem l3_eq : l3 (k + 1) x2 i3 i4 x5 = if (decide (i4 < i3)) = true then if 0 ≤ i4 ∧ i4 < (x2.length : Int) then if (((x2.getD i4.toNat ([] : LI)).length : Int) == 1) = true then if 0 ≤ (0 : Int) ∧ (0 : Int) < ((x2.getD i4.toNat ([] : LI)).length : Int) then if x5.length + [(x2.getD i4.toNat ([] : LI)).getD (0 : Int).toNat 0].length ≤ bigA then l3 k x2 i3 (IntKind.i64.wrap (i4 + 1)) (x5 ++ [(x2.getD i4.toNat ([] : LI)).getD (0 : Int).toNat 0]) else none else none else l3 k x2 i3 (IntKind.i64.wrap (i4 + 1)) x5 else none else some ((x5, ()), ()) := by kernel_rfl
variable (c_1 : LL)
noncomputable def T : OL := l3 k c_1 (c_1.length : Int) (0 : Int) ([])
theorem of {r} (h : Ev (fun k => T k c_1) r) : F (c_1, ()) = some r := Ev.run (fun k => by kernel_rfl) h
theorem S : a3x prog ⟨200, sig, F⟩ := sound_k (res := [.tmp 2]) func200 (cok nM)
end Ab5
namespace Ae2
noncomputable def sig : Sig := ⟨[pL, pI], [oI]⟩
noncomputable def cfg : Cfg := cl (cx []) fun id => match id with | 2 => ([0, 1, 7, 8], []) | _ => ([], [])
noncomputable def fin := finK cfg.c sig [.tmp 4]
noncomputable def F (d : LI × Int × Unit) : OI := anyK (a9q cfg fin (bd f254) (a5e sig.ps d 19))
variable (k : Nat) (x3 : LI) (i4 i5 i6 : Int)
noncomputable def l2 : OI := Vm.runT cfg fin k [.inLoop (sub [1, 0, 1, 0, 0] (bd f254)), .inBlock 0, .code (sub [1, 1] (bd f254))] ⟨[vL x3, vI i4, dD, dD, dD, dD, dD, vI i5, vI i6] ++ a8I 10, []⟩
theorem l2_eq : l2 (k + 1) x3 i4 i5 i6 = if (decide (i6 < i5)) = true then if 0 ≤ i6 ∧ i6 < (x3.length : Int) then if (i4 == (x3.getD i6.toNat 0 : Int)) = true then some ((i6, ()), ()) else l2 k x3 i4 i5 (IntKind.i64.wrap (i6 + 1)) else none else some (((-1 : Int), ()), ()) := by kernel_rfl
variable (s_1 : LI) (v_2 : Int)
noncomputable def T : OI := l2 k s_1 v_2 (s_1.length : Int) (0 : Int)
theorem of {r} (h : Ev (fun k => T k s_1 v_2) r) : F (s_1, v_2, ()) = some r := Ev.run (fun k => by kernel_rfl) h
theorem S : a3x prog ⟨254, sig, F⟩ := sound_k (res := [.tmp 4]) func254 (cok nM)
end Ae2
namespace Ag5
noncomputable def sig : Sig := sortIS
noncomputable def F (d : LI × Unit) : Option ((Unit) × (LI × Unit)) := b4G d
def ren : Go.Shelf.Ren := ⟨fun | 53 => 255 | 59 => 301 | 63 => 287 | 64 => 288 | 68 => 314 | 70 => 295 | 71 => 296 | 72 => 297 | 73 => 298 | 74 => 299 | 75 => 300 | 76 => 302 | 77 => 303 | 78 => 304 | 79 => 305 | 88 => 316 | 89 => 317 | 90 => 318 | 91 => 319 | 92 => 320 | 96 => 324 | n => n, fun | 0 => 0 | 3 => 3 | 4 => 4 | 5 => 5 | 9 => 9 | 22 => 25 | 23 => 2 | 44 => 193 | 51 => 235 | 60 => 246 | 61 => 247 | 67 => 253 | 69 => 255 | 75 => 262 | 79 => 266 | 83 => 270 | 84 => 271 | n => n, fun n => n⟩
theorem lays : Go.Proofs.SlLaysN.n53 prog ren where
  mixed := by kernel_rfl
  f53 := ⟨"slices.Sort[[]int64,int64]", by decide, func255.trans (congrArg some (by kernel_rfl))⟩
  f59 := ⟨"cmp.Less[int64]", by decide, func301.trans (congrArg some (by kernel_rfl))⟩
  f63 := ⟨"slices.pdqsortOrdered[int64]", by decide, func287.trans (congrArg some (by kernel_rfl))⟩
  f64 := func288.trans (congrArg some (by kernel_rfl))
  f68 := ⟨"cmp.isNaN[int64]", by decide, func314.trans (congrArg some (by kernel_rfl))⟩
  f70 := ⟨"slices.insertionSortOrdered[int64]", by decide, func295.trans (congrArg some (by kernel_rfl))⟩
  f71 := ⟨"slices.heapSortOrdered[int64]", by decide, func296.trans (congrArg some (by kernel_rfl))⟩
  f72 := ⟨"slices.breakPatternsOrdered[int64]", by decide, func297.trans (congrArg some (by kernel_rfl))⟩
  f73 := ⟨"slices.choosePivotOrdered[int64]", by decide, func298.trans (congrArg some (by kernel_rfl))⟩
  f74 := ⟨"slices.reverseRangeOrdered[int64]", by decide, func299.trans (congrArg some (by kernel_rfl))⟩
  f75 := ⟨"slices.partialInsertionSortOrdered[int64]", by decide, func300.trans (congrArg some (by kernel_rfl))⟩
  f76 := ⟨"slices.partitionEqualOrdered[int64]", by decide, func302.trans (congrArg some (by kernel_rfl))⟩
  f77 := ⟨"slices.partitionOrdered[int64]", by decide, func303.trans (congrArg some (by kernel_rfl))⟩
  f78 := func304.trans (congrArg some (by kernel_rfl))
  f79 := func305.trans (congrArg some (by kernel_rfl))
  f88 := ⟨"slices.siftDownOrdered[int64]", by decide, func316.trans (congrArg some (by kernel_rfl))⟩
  f89 := func317.trans (congrArg some (by kernel_rfl))
  f90 := func318.trans (congrArg some (by kernel_rfl))
  f91 := ⟨"slices.medianAdjacentOrdered[int64]", by decide, func319.trans (congrArg some (by kernel_rfl))⟩
  f92 := ⟨"slices.medianOrdered[int64]", by decide, func320.trans (congrArg some (by kernel_rfl))⟩
  f96 := ⟨"slices.order2Ordered[int64]", by decide, func324.trans (congrArg some (by kernel_rfl))⟩
  t0 := underlying0
  a0 := isAgg0
  z0 := sizeOf0
  v0 := zeroValue0
  t3 := underlying3
  a3 := isAgg3
  z3 := sizeOf3
  v3 := zeroValue3
  t4 := underlying4
  a4 := isAgg4
  z4 := sizeOf4
  v4 := zeroValue4
  t5 := underlying5
  a5 := isAgg5
  z5 := sizeOf5
  v5 := zeroValue5
  t9 := underlying9
  a9 := isAgg9
  z9 := sizeOf9
  v9 := zeroValue9
  t22 := underlying25
  a22 := isAgg25
  z22 := sizeOf25
  v22 := zeroValue25
  t23 := underlying2
  a23 := isAgg2
  z23 := sizeOf2
  v23 := zeroValue2
  t44 := underlying193
  a44 := isAgg193
  z44 := sizeOf193
  v44 := zeroValue193
  t51 := underlying235
  a51 := isAgg235
  z51 := sizeOf235
  v51 := zeroValue235
  t60 := underlying246
  a60 := isAgg246
  z60 := sizeOf246
  v60 := zeroValue246
  t61 := underlying247
  a61 := isAgg247
  z61 := sizeOf247
  v61 := zeroValue247
  t67 := underlying253
  a67 := isAgg253
  z67 := sizeOf253
  v67 := zeroValue253
  t69 := underlying255
  a69 := isAgg255
  z69 := sizeOf255
  v69 := zeroValue255
  t75 := underlying262
  a75 := isAgg262
  z75 := sizeOf262
  v75 := zeroValue262
  t79 := underlying266
  a79 := isAgg266
  z79 := sizeOf266
  v79 := zeroValue266
  t83 := underlying270
  a83 := isAgg270
  z83 := sizeOf270
  v83 := zeroValue270
  t84 := underlying271
  a84 := isAgg271
  z84 := sizeOf271
  v84 := zeroValue271
set_option maxRecDepth 100000 in
theorem S : a3x prog ⟨255, sig, F⟩ := sortI_sound lays
end Ag5
namespace Ag3
noncomputable def sig : Sig := compIS
noncomputable def F (d : LI × Unit) : OL := b4v d
def ren : Go.Shelf.Ren := ⟨fun | 43 => 256 | n => n, fun | 0 => 0 | 3 => 3 | 4 => 4 | 22 => 25 | 23 => 2 | n => n, fun n => n⟩
theorem lays : Go.Proofs.SlLaysN.n43 prog ren where
  mixed := by kernel_rfl
  f43 := ⟨"slices.Compact[[]int64,int64]", by decide, func256.trans (congrArg some (by kernel_rfl))⟩
  t0 := underlying0
  a0 := isAgg0
  z0 := sizeOf0
  v0 := zeroValue0
  t3 := underlying3
  a3 := isAgg3
  z3 := sizeOf3
  v3 := zeroValue3
  t4 := underlying4
  a4 := isAgg4
  z4 := sizeOf4
  v4 := zeroValue4
  t22 := underlying25
  a22 := isAgg25
  z22 := sizeOf25
  v22 := zeroValue25
  t23 := underlying2
  a23 := isAgg2
  z23 := sizeOf2
  v23 := zeroValue2
  i23 := by kernel_rfl
set_option maxRecDepth 100000 in
theorem S : a3x prog ⟨256, sig, F⟩ := compI_sound lays
end Ag3
namespace Ab0
noncomputable def sig : Sig := ⟨[pC, pL, pL], [oL]⟩
noncomputable def cfg : Cfg := cl (cx [⟨200, Ab5.sig, Ab5.F⟩, ⟨254, Ae2.sig, Ae2.F⟩, ⟨255, Ag5.sig, Ag5.F⟩, ⟨256, Ag3.sig, Ag3.F⟩]) fun id => match id with | 4 => ([1, 7, 8, 13, 14, 15], [28, 32]) | _ => ([], [])
noncomputable def fin := finK cfg.c sig [.tmp 6]
noncomputable def F (d : LL × LI × LI × Unit) : OL := anyK (a9q cfg fin (bd f187) (a5e sig.ps d 33))
variable (k : Nat) (x5 x6 : LI) (i7 i8 : Int) (x9 x10 : LI)
noncomputable def l4 : OL := Vm.runT cfg fin k [.inLoop (sub [1, 1, 1, 0, 1, 0, 0] (bd f187)), .inBlock 0, .code (sub [1, 1, 1, 1] (bd f187))] ⟨[dD, vL x5, dD, dD, dD, dD, dD, .view 28 (.root 0) 1 false, .view 32 (.root 0) 1 false, dD, dD, dD, dD, vL x6, vI i7, vI i8] ++ a8I 17, [(28, ⟨false, [dL x9]⟩), (32, ⟨false, [dL x10]⟩)]⟩
theorem l4_eq : l4 (k + 1) x5 x6 i7 i8 x9 x10 = if (decide (i8 < i7)) = true then if 0 ≤ i8 ∧ i8 < (x6.length : Int) then (Ae2.F (x9, (x6.getD i8.toNat 0 : Int), ())).bind fun r11 => if 0 ≤ r11.1.1 ∧ r11.1.1 < (x5.length : Int) then if x10.length + [x5.getD r11.1.1.toNat 0].length ≤ bigA then l4 k x5 x6 i7 (IntKind.i64.wrap (i8 + 1)) x9 (x10 ++ [x5.getD r11.1.1.toNat 0]) else none else none else none else (Ag5.F (x10, ())).bind fun r12 => (Ag3.F (r12.2.1, ())).bind fun r13 => some ((r13.1.1, ()), ()) := by kernel_rfl
variable (a_1 : LL) (images_2 s_3 : LI)
noncomputable def T : OL := (Ab5.F (a_1, ())).bind fun r4 => l4 k images_2 s_3 (s_3.length : Int) (0 : Int) r4.1.1 ([])
theorem of {r} (h : Ev (fun k => T k a_1 images_2 s_3) r) : F (a_1, images_2, s_3, ()) = some r := Ev.run (fun k => by kernel_rfl) h
theorem S : a3x prog ⟨187, sig, F⟩ := sound_k (res := [.tmp 6]) func187 (cok (cM ⟨Ab5.S, cM ⟨Ae2.S, cM ⟨Ag5.S, cM ⟨Ag3.S, nM⟩⟩⟩⟩))
end Ab0
namespace Ag7
noncomputable def sig : Sig := ⟨[pL, qC, qC, .rptr tL], [oB]⟩
noncomputable def cfg : Cfg := cf (cx [⟨107, Ac5.sig, Ac5.F⟩, ⟨187, Ab0.sig, Ab0.F⟩])
noncomputable def fin := finK cfg.c sig [.tmp 5]
noncomputable def F (d : LI × LL × LL × LI × Unit) : OB := anyK (a9q cfg fin (bd f201) (a5e sig.ps d 13))
variable (s_1 : LI) (a_2 a_3 : LL) (a_4 : LI)
noncomputable def T : OB := (Ab0.F (a_3, a_4, s_1, ())).bind fun r5 => (Ac5.F (a_2, r5.1.1, ())).bind fun r6 => some ((decide (r6.1.1 < 0), ()), ())
theorem eq : F (s_1, a_2, a_3, a_4, ()) = T s_1 a_2 a_3 a_4 := eq_any fun k => by kernel_rfl
theorem S : a3x prog ⟨201, sig, F⟩ := sound_k (res := [.tmp 5]) func201 (cok (cM ⟨Ac5.S, cM ⟨Ab0.S, nM⟩⟩))
noncomputable def cloG (y : LL × LL × LI × Unit) (d : LI × Unit) : Option (Bool × Unit) := (F (a9c [.rptr tQ, .rptr tQ, .rptr tL] [(false, tL)] d y)).map (·.1)
noncomputable def clo : Clo := ⟨201, ⟨[(false, tL)], [(.val false, .bool, .deep)]⟩, [.rptr tQ, .rptr tQ, .rptr tL], cloG⟩
theorem cloS : a2b prog clo := sound_clo (s := ⟨[(false, tL)], [(.val false, .bool, .deep)]⟩) (caps := [.rptr tQ, .rptr tQ, .rptr tL]) rfl S
end Ag7
namespace Af4
noncomputable def sig : Sig := ⟨[pC, pC, pL], [oB]⟩
noncomputable def cfg : Cfg := cf ⟨a2X tabl, [⟨196, Ab9.sig, Ab9.F⟩, ⟨200, Ab5.sig, Ab5.F⟩], [Ag7.clo], [], [], []⟩
noncomputable def fin := finK cfg.c sig [.tmp 6]
noncomputable def F (d : LL × LL × LI × Unit) : OB := anyK (a9q cfg fin (bd f106) (a5e sig.ps d 18))
variable (a_1 b_2 : LL) (images_3 : LI)
noncomputable def T : OB := (Ab5.F (a_1, ())).bind fun r4 => if ((images_3.length : Int) != (r4.1.1.length : Int)) = true then some ((false, ()), ()) else (Ab9.F (a_1, Ag7.cloG (b_2, a_1, images_3, ()), ())).bind fun r5 => some ((!r5.1.1, ()), ())
theorem eq : F (a_1, b_2, images_3, ()) = T a_1 b_2 images_3 := eq_any fun k => by kernel_rfl
theorem S : a3x prog ⟨106, sig, F⟩ := sound_k (res := [.tmp 6]) func106 (⟨nM, mixed_ok, tab_ok tab_good, cM ⟨Ab9.S, cM ⟨Ab5.S, nM⟩⟩, cM ⟨Ag7.cloS, nM⟩, nM⟩)
end Af4
namespace Ab1
noncomputable def sig : Sig := ⟨[pC, pC, pL], [oI]⟩
noncomputable def cfg : Cfg := cf (cx [⟨104, Ab3.sig, Ab3.F⟩, ⟨106, Af4.sig, Af4.F⟩])
noncomputable def fin := finK cfg.c sig [.tmp 6]
noncomputable def F (d : LL × LL × LI × Unit) : OI := anyK (a9q cfg fin (bd f186) (a5e sig.ps d 22))
variable (a_1 b_2 : LL) (images_3 : LI)
noncomputable def T : OI := (Ab3.F (a_1, ())).bind fun r4 => if (!r4.1.1) = true then some ((1, ()), ()) else (Ab3.F (b_2, ())).bind fun r5 => if (!r5.1.1) = true then some ((1, ()), ()) else (Af4.F (a_1, b_2, images_3, ())).bind fun r6 => if (!r6.1.1) = true then some ((7, ()), ()) else some ((0, ()), ())
theorem eq : F (a_1, b_2, images_3, ()) = T a_1 b_2 images_3 := eq_any fun k => by kernel_rfl
theorem S : a3x prog ⟨186, sig, F⟩ := sound_k (res := [.tmp 6]) func186 (cok (cM ⟨Ab3.S, cM ⟨Af4.S, nM⟩⟩))
end Ab1
namespace Af9
noncomputable def sig : Sig := ⟨[pL], [oL]⟩
noncomputable def cfg : Cfg := cf (cx [])
noncomputable def fin := finK cfg.c sig [.tmp 2]
noncomputable def F (d : LI × Unit) : OL := anyK (a9q cfg fin (bd f157) (a5e sig.ps d 8))
variable (s_1 : LI)
noncomputable def T : OL := if 0 < s_1.length then if ([] : LI).length + s_1.length ≤ bigA then some ((([] : LI) ++ s_1, ()), ()) else none else both ( some (([], ()), ()) ) ( if ([] : LI).length + s_1.length ≤ bigA then some ((([] : LI) ++ s_1, ()), ()) else none )
theorem eq : F (s_1, ()) = T s_1 := eq_any fun k => by kernel_rfl
theorem S : a3x prog ⟨157, sig, F⟩ := sound_k (res := [.tmp 2]) func157 (cok nM)
end Af9
namespace Ad6
noncomputable def sig : Sig := ⟨[pQ], [oQ]⟩
noncomputable def cfg : Cfg := cl (cx [⟨157, Af9.sig, Af9.F⟩]) fun id => match id with | 3 => ([3, 6, 7, 8], [12]) | _ => ([], [])
noncomputable def fin := finK cfg.c sig [.tmp 2]
noncomputable def F (d : LL × Unit) : OQ := anyK (a9q cfg fin (bd f156) (a5e sig.ps d 19))
variable (k : Nat) (x2 : LL) (i3 i4 : Int) (x5 : LL)
noncomputable def l3 : OQ := Vm.runT cfg fin k [.inLoop (sub [1, 1, 0, 1, 0, 0] (bd f156)), .inBlock 0, .code (sub [1, 1, 1] (bd f156))] ⟨[dD, dD, dD, .view 12 (.root 0) 1 false, dD, dD, vQ x2, vI i3, vI i4] ++ a8I 10, [(12, ⟨false, [dQ x5]⟩)]⟩
theorem l3_eq : l3 (k + 1) x2 i3 i4 x5 = if (decide (i4 < i3)) = true then if 0 ≤ i4 ∧ i4 < (x2.length : Int) then (Af9.F (x2.getD i4.toNat ([] : LI), ())).bind fun r6 => if x5.length + [r6.1.1].length ≤ bigA then l3 k x2 i3 (IntKind.i64.wrap (i4 + 1)) (x5 ++ [r6.1.1]) else none else none else some ((x5, ()), ()) := by kernel_rfl
variable (lists_1 : LL)
noncomputable def T : OQ := l3 k lists_1 (lists_1.length : Int) (0 : Int) ([])
theorem of {r} (h : Ev (fun k => T k lists_1) r) : F (lists_1, ()) = some r := Ev.run (fun k => by kernel_rfl) h
theorem S : a3x prog ⟨156, sig, F⟩ := sound_k (res := [.tmp 2]) func156 (cok (cM ⟨Af9.S, nM⟩))
end Ad6
namespace Ag4
noncomputable def sig : Sig := sortS
noncomputable def F (d : LL × ((LI × LI × Unit) → Option (Int × Unit)) × Unit) : Option ((Unit) × (LL × Unit)) := sortF ordS d
def ren : Go.Shelf.Ren := ⟨fun | 6 => 257 | 14 => 289 | 15 => 288 | 20 => 306 | 21 => 307 | 22 => 308 | 23 => 309 | 24 => 310 | 25 => 311 | 26 => 312 | 27 => 313 | 28 => 304 | 29 => 305 | 46 => 321 | 47 => 317 | 48 => 318 | 49 => 322 | 50 => 323 | 57 => 325 | n => n, fun | 0 => 0 | 3 => 3 | 4 => 4 | 5 => 5 | 9 => 9 | 22 => 22 | 24 => 25 | 25 => 189 | 39 => 235 | 45 => 246 | 46 => 247 | 50 => 193 | 53 => 253 | 55 => 255 | 66 => 262 | 70 => 266 | 76 => 270 | 77 => 271 | n => n, fun n => n⟩
theorem lays : Go.Proofs.SlLaysF.n6 prog ren where
  mixed := by kernel_rfl
  f6 := ⟨"slices.SortFunc[[][]int64,[]int64]", by decide, func257.trans (congrArg some (by kernel_rfl))⟩
  f14 := ⟨"slices.pdqsortCmpFunc[[]int64]", by decide, func289.trans (congrArg some (by kernel_rfl))⟩
  f15 := func288.trans (congrArg some (by kernel_rfl))
  f20 := ⟨"slices.insertionSortCmpFunc[[]int64]", by decide, func306.trans (congrArg some (by kernel_rfl))⟩
  f21 := ⟨"slices.heapSortCmpFunc[[]int64]", by decide, func307.trans (congrArg some (by kernel_rfl))⟩
  f22 := ⟨"slices.breakPatternsCmpFunc[[]int64]", by decide, func308.trans (congrArg some (by kernel_rfl))⟩
  f23 := ⟨"slices.choosePivotCmpFunc[[]int64]", by decide, func309.trans (congrArg some (by kernel_rfl))⟩
  f24 := ⟨"slices.reverseRangeCmpFunc[[]int64]", by decide, func310.trans (congrArg some (by kernel_rfl))⟩
  f25 := ⟨"slices.partialInsertionSortCmpFunc[[]int64]", by decide, func311.trans (congrArg some (by kernel_rfl))⟩
  f26 := ⟨"slices.partitionEqualCmpFunc[[]int64]", by decide, func312.trans (congrArg some (by kernel_rfl))⟩
  f27 := ⟨"slices.partitionCmpFunc[[]int64]", by decide, func313.trans (congrArg some (by kernel_rfl))⟩
  f28 := func304.trans (congrArg some (by kernel_rfl))
  f29 := func305.trans (congrArg some (by kernel_rfl))
  f46 := ⟨"slices.siftDownCmpFunc[[]int64]", by decide, func321.trans (congrArg some (by kernel_rfl))⟩
  f47 := func317.trans (congrArg some (by kernel_rfl))
  f48 := func318.trans (congrArg some (by kernel_rfl))
  f49 := ⟨"slices.medianAdjacentCmpFunc[[]int64]", by decide, func322.trans (congrArg some (by kernel_rfl))⟩
  f50 := ⟨"slices.medianCmpFunc[[]int64]", by decide, func323.trans (congrArg some (by kernel_rfl))⟩
  f57 := ⟨"slices.order2CmpFunc[[]int64]", by decide, func325.trans (congrArg some (by kernel_rfl))⟩
  t0 := underlying0
  a0 := isAgg0
  z0 := sizeOf0
  v0 := zeroValue0
  t3 := underlying3
  a3 := isAgg3
  z3 := sizeOf3
  v3 := zeroValue3
  t4 := underlying4
  a4 := isAgg4
  z4 := sizeOf4
  v4 := zeroValue4
  t5 := underlying5
  a5 := isAgg5
  z5 := sizeOf5
  v5 := zeroValue5
  t9 := underlying9
  a9 := isAgg9
  z9 := sizeOf9
  v9 := zeroValue9
  t22 := underlying22
  a22 := isAgg22
  z22 := sizeOf22
  v22 := zeroValue22
  a24 := isAgg25
  z24 := sizeOf25
  t25 := underlying189
  a25 := isAgg189
  z25 := sizeOf189
  v25 := zeroValue189
  t39 := underlying235
  a39 := isAgg235
  z39 := sizeOf235
  v39 := zeroValue235
  t45 := underlying246
  a45 := isAgg246
  z45 := sizeOf246
  v45 := zeroValue246
  t46 := underlying247
  a46 := isAgg247
  z46 := sizeOf247
  v46 := zeroValue247
  t50 := underlying193
  a50 := isAgg193
  z50 := sizeOf193
  v50 := zeroValue193
  t53 := underlying253
  a53 := isAgg253
  z53 := sizeOf253
  v53 := zeroValue253
  t55 := underlying255
  a55 := isAgg255
  z55 := sizeOf255
  v55 := zeroValue255
  t66 := underlying262
  a66 := isAgg262
  z66 := sizeOf262
  v66 := zeroValue262
  t70 := underlying266
  a70 := isAgg266
  z70 := sizeOf266
  v70 := zeroValue266
  t76 := underlying270
  a76 := isAgg270
  z76 := sizeOf270
  v76 := zeroValue270
  t77 := underlying271
  a77 := isAgg271
  z77 := sizeOf271
  v77 := zeroValue271
theorem S : a3x prog ⟨257, sig, F⟩ := sort_sound lays ordS_swo ordS_tot
end Ag4
namespace Ag2
noncomputable def sig : Sig := compS
noncomputable def F (d : LL × ((LI × LI × Unit) → Option (Bool × Unit)) × Unit) : OQ := compF d
theorem emp (p : Option Addr) (cap : Nat) (fv : Value) (w : World) : Calls prog 258 #[.slice p 0 cap, fv] w fun e w' => e = .returned (.slice p 0 cap) ∧ w' = w := by
  go_enter func258, ntmps258
  go_wp2
  go_ret
  exact ⟨rfl, rfl⟩
open Go.Proofs Go.Shelf Go.RowKit Go.Lib Go.Sort in
set_option maxHeartbeats 16000000 in
set_option maxRecDepth 1000000 in
theorem walk {α : Type} [Inhabited α] (enc : α → Value) (hO : OneCell enc) (eq : α → α → Bool) (zr : α) (hz : enc zr = .slice none 0 0) (g : Nat) (cb : Array Value) (eg : ∀ args w, (callFunc g args).run prog w = .ok (.enter g args) w)
    (blk off cap : Nat) (d : Array α) (w : World) (hcmp : a9O prog g cb enc eq blk off d.size w) (hH : Holds enc w blk off d) (hblk : blk < w.heap.size) (hsz : d.size < 4611686018427387904) (hcap : d.size ≤ cap) (kp : Nat → Bool) (hkp0 : kp 0 = true) (hkp : ∀ j, 0 < j → kp j = !(eq d[j]! d[j - 1]!)) :
    Calls prog 258 #[.slice (some ⟨blk, off, none⟩) d.size cap, .func (.func g) #[] cb] w fun e w' => e = .returned (.slice (some ⟨blk, off, none⟩) (keptUpTo kp d d.size).length cap) ∧ SW enc w blk off (keptUpTo kp d d.size ++ List.replicate (d.size - (keptUpTo kp d d.size).length) zr).toArray w' := by
  have mixed : prog.follows .mixedOrders = true := mixed_ok
  have hcl0 := hO.cells
  simp only [Value.cells] at hcl0
  have hst := hO.store prog
  have R : Row1 enc w blk off d := ⟨hO, hH, hblk⟩
  have HC : Aside (a9O prog g cb enc eq blk off d.size w) := hcmp
  have S0 : Aside (SW enc w blk off d w) := SW.start hH
  have same : ∀ W, SW enc w blk off d W → (∀ j, j < d.size → kp j = true) → (keptUpTo kp d d.size).length = d.size ∧ SW enc w blk off (keptUpTo kp d d.size ++ List.replicate (d.size - (keptUpTo kp d d.size).length) zr).toArray W := by
    intro W hW hall
    have e : keptUpTo kp d d.size = d.toList := by rw [keptUpTo_all kp d _ hall, range_map_get]
    rw [e]
    refine ⟨by simp, ?_⟩
    simpa using hW
  have HS : Aside _ := same
  have K0 : Aside (kp 0 = true) := hkp0
  have K1 : Aside (∀ j, 0 < j → kp j = !(eq d[j]! d[j - 1]!)) := hkp
  clear hcmp same hkp0 hkp hH
  by_cases h2 : d.size < 2
  · go_enter func258, ntmps258
    go_wp2
    go_ret
    obtain ⟨e1, e2⟩ := HS.out _ S0.out (fun j hj => by
      have : j = 0 := by omega
      rw [this]; exact K0.out)
    exact ⟨by rw [e1]; rfl, e2⟩
  · go_enter func258, ntmps258
    go_wp2
    go_loopg [5] d.size (fun g1 s5 wr => ∃ k : Nat, s5 = .int .i64 k ∧ 1 ≤ k ∧ k ≤ d.size ∧ d.size - k ≤ g1 ∧ Aside (SW enc w blk off d wr) ∧ Hid (∀ j, j < k → kp j = true))
    case atStart => exact ⟨1, rfl, Nat.le_refl _, by omega, by omega, S0, fun j hj => by
      have : j = 0 := by omega
      rw [this]; exact K0.out⟩
    case round =>
      clear S0
      obtain ⟨k, rfl, hk1, hk, hg1, S1, HA⟩ := hrel
      by_cases hlt : k < d.size
      · have hltz : (k : Int) < (d.size : Int) := by omega
        obtain ⟨kq, hkq⟩ : ∃ q, q + 1 = k := ⟨k - 1, by omega⟩
        have zk : (k : Int) = (kq : Int) + 1 := by omega
        obtain ⟨iN, hiN⟩ : ∃ q, q = k := ⟨_, rfl⟩
        obtain ⟨jN, hjN⟩ : ∃ q, q = k - 1 := ⟨_, rfl⟩
        have ea : ((kq : Int) + 1).toNat = iN := by omega
        have pa : (0 : Int) ≤ (kq : Int) + 1 := by omega
        have ba : (kq : Int) + 1 < (d.size : Int) := by omega
        have ra : IntKind.i64.wrap ((kq : Int) + 1) = (kq : Int) + 1 := by rw [IntKind.wrap_i64]; omega
        have ec : ((kq : Int)).toNat = jN := by omega
        have pc : (0 : Int) ≤ (kq : Int) := by omega
        have bc : (kq : Int) < (d.size : Int) := by omega
        have rc : IntKind.i64.wrap ((kq : Int)) = (kq : Int) := by rw [IntKind.wrap_i64]; omega
        obtain ⟨x, hx⟩ : ∃ x, x = d[k]! := ⟨_, rfl⟩
        obtain ⟨y, hy⟩ : ∃ x, x = d[k - 1]! := ⟨_, rfl⟩
        have la := S1.out.cl R rfl k (by omega)
        have lb := S1.out.cl R rfl (k - 1) (by omega)
        rw [← hx, ← hiN] at la
        rw [← hy, ← hjN] at lb
        have hc := sw_eql S1.out HC.out rfl x y
        have KK : Aside (kp k = !(eq x y)) := by rw [hx, hy]; exact K1.out k (by omega)
        clear hx hy hiN hjN
        cases hv : eq x y with
        | true =>
          rw [hv] at hc KK
          go_wp2_with fail
          go_quiet_grown (first | (go_at_fn g; refine Calls.grown_of (hc _ _)))
          have S2 : Aside (SW enc w blk off d (grow (wr.drewN nq) osq)) := S1.out.grown nq osq
          clear la lb hc S1
          generalize grow (wr.drewN nq) osq = w2 at S2 ⊢
          clear nq osq
          clear ea ec pa ba ra pc bc rc
          have hzk : (kq : Int) + 1 = (k : Int) := by omega
          clear zk hkq
          simp only [hzk]
          clear hzk
          go_wp2
          go_loopg [5, 7] d.size (fun g2 s5 s7 wr2 => ∃ (kk k2 : Nat) (dk : Array α), s5 = .int .i64 kk ∧ s7 = .int .i64 k2 ∧ 1 ≤ k2 ∧ k + k2 ≤ d.size ∧ d.size - (k + k2) ≤ g2 ∧ Aside (SW enc w blk off dk wr2) ∧ Aside (KeptInv kp d (k + k2) kk dk))
          case atStart => exact ⟨k, 1, d, rfl, rfl, Nat.le_refl _, by omega, by omega, S2, KeptInv.start HA.out (by rw [KK.out]; rfl)⟩
          case round =>
            clear S2 KK HA
            obtain ⟨kk, k2, dk, rfl, rfl, h1, hle, hg2, S3, I2⟩ := hrel
            have hkk := I2.out.lt
            have hds := I2.out.size
            by_cases hlt2 : k + k2 < d.size
            · obtain ⟨kq, hkq⟩ : ∃ q, q + 1 = k2 := ⟨k2 - 1, by omega⟩
              have zk : (k2 : Int) = (kq : Int) + 1 := by omega
              obtain ⟨iN, hiN⟩ : ∃ q, q = k2 := ⟨_, rfl⟩
              obtain ⟨jN, hjN⟩ : ∃ q, q = k2 - 1 := ⟨_, rfl⟩
              have ea : ((kq : Int) + 1).toNat = iN := by omega
              have pa : (0 : Int) ≤ (kq : Int) + 1 := by omega
              have ba : (kq : Int) + 1 < ((d.size - k : Nat) : Int) := by omega
              have ra : IntKind.i64.wrap ((kq : Int) + 1) = (kq : Int) + 1 := by rw [IntKind.wrap_i64]; omega
              have ec : ((kq : Int)).toNat = jN := by omega
              have pc : (0 : Int) ≤ (kq : Int) := by omega
              have bc : (kq : Int) < ((d.size - k : Nat) : Int) := by omega
              have rc : IntKind.i64.wrap ((kq : Int)) = (kq : Int) := by rw [IntKind.wrap_i64]; omega
              obtain ⟨x, hx⟩ : ∃ x, x = d[k + k2]! := ⟨_, rfl⟩
              obtain ⟨y, hy⟩ : ∃ x, x = d[k + k2 - 1]! := ⟨_, rfl⟩
              have la := S3.out.cl R hds (k + k2) (by omega)
              have lb := S3.out.cl R hds (k + k2 - 1) (by omega)
              rw [I2.out.high (k + k2) (by omega), ← hx, show off + (k + k2) = off + k + iN by omega] at la
              rw [I2.out.high (k + k2 - 1) (by omega), ← hy, show off + (k + k2 - 1) = off + k + jN by omega] at lb
              have hc := sw_eql S3.out HC.out hds x y
              have KK : Aside (kp (k + k2) = !(eq x y)) := by rw [hx, hy]; exact K1.out (k + k2) (by omega)
              have XX : Aside (x = d[k + k2]!) := hx
              clear hx hy hiN hjN
              cases hv : eq x y with
              | true =>
                rw [hv] at hc KK
                go_wp2_with fail
                go_quiet_grown (first | (go_at_fn g; refine Calls.grown_of (hc _ _)))
                have S2 : Aside (SW enc w blk off dk (grow (wr.drewN nq) osq)) := S3.out.grown nq osq
                clear la lb hc S3
                generalize grow (wr.drewN nq) osq = w2 at S2 ⊢
                clear nq osq
                clear ea ec
                go_wp2
                go_roundg (d.size - (k + (k2 + 1)))
                case measure => omega
                case rel => exact ⟨kk, k2 + 1, dk, rfl, by go_num, by omega, by omega, Nat.le_refl _, S2, I2.out.skip (by rw [KK.out]; rfl)⟩
              | false =>
                rw [hv] at hc KK
                go_wp2_with fail
                go_quiet_grown (first | (go_at_fn g; refine Calls.grown_of (hc _ _)))
                have S2 : Aside (SW enc w blk off dk (grow (wr.drewN nq) osq)) := S3.out.grown nq osq
                clear la lb hc S3
                generalize grow (wr.drewN nq) osq = w2 at S2 ⊢
                clear nq osq
                clear ea ec pa ba ra pc bc rc
                have hzk : (kq : Int) + 1 = (k2 : Int) := by omega
                clear zk hkq
                simp only [hzk]
                clear hzk
                have cm := S2.out.c1 R hds (k + k2) (by omega)
                have ck := S2.out.c1 R hds kk (by omega)
                have fk := S2.out.f1 R hds kk (by omega)
                rw [I2.out.high (k + k2) (by omega), ← XX.out, show off + (k + k2) = off + k + k2 by omega] at cm
                generalize dk[kk]! = old at ck
                have hlz : (k2 : Int) < ((d.size - k : Nat) : Int) := by omega
                go_wp2
                go_roundg (d.size - (k + (k2 + 1)))
                case measure => omega
                case rel => exact ⟨kk + 1, k2 + 1, dk.setIfInBounds kk x, by go_num, by go_num, by omega, by omega, Nat.le_refl _, sw_set S2.out hblk kk x (by omega), (by have := I2.out.keep hlt2 (by rw [KK.out]; rfl); rwa [← XX.out] at this)⟩
            · have hend : k + k2 = d.size := by omega
              have hcl : ∀ ty, (Builtin.clear_ #[22] ty #[.slice (some ⟨blk, off + kk, none⟩) (d.size - kk) (cap - kk)]).run prog wr = .ok (.tuple #[]) (wr.setCells blk (off + kk) (List.replicate (d.size - kk) (enc zr))) :=
                fun ty => Lib.run_clear_slice wr _ _ ty _ underlying22 (fun w => by rw [hz]; exact zeroValue25 w) (hO.cells zr) (hO zr) blk (off + kk) _ _ (by omega) (fun j hj => by rw [show off + kk + j = off + (kk + j) by omega, S3.out.c1 R hds (kk + j) (by omega)]; rfl) (fun j hj => by rw [show off + kk + j = off + (kk + j) by omega]; exact S3.out.f1 R hds (kk + j) (by omega))
              go_wp2
              go_ret
              have hI := I2.out
              rw [hend] at hI
              refine ⟨by rw [hI.len]; rfl, ?_⟩
              rw [hI.len, ← hI.done zr]
              have := sw_lay hblk (List.replicate (d.size - kk) zr) dk _ kk S3.out (by simp; omega)
              rw [List.map_replicate, hz] at this
              exact this
        | false =>
          rw [hv] at hc KK
          go_wp2_with fail
          go_quiet_grown (first | (go_at_fn g; refine Calls.grown_of (hc _ _)))
          have S2 : Aside (SW enc w blk off d (grow (wr.drewN nq) osq)) := S1.out.grown nq osq
          clear la lb hc S1
          generalize grow (wr.drewN nq) osq = w2 at S2 ⊢
          clear nq osq
          clear ea ec
          go_wp2
          go_roundg (d.size - (k + 1))
          case measure => omega
          case rel =>
            refine ⟨k + 1, by go_num, by omega, by omega, Nat.le_refl _, S2, fun j hj => ?_⟩
            by_cases e : j = k
            · subst e; exact KK.out
            · exact HA.out j (by omega)
      · have : k = d.size := by omega
        subst this
        go_wp2
        go_ret
        obtain ⟨e1, e2⟩ := HS.out _ S1.out HA.out
        exact ⟨by rw [e1]; rfl, e2⟩
theorem S : a3x prog ⟨258, sig, F⟩ := comp_sound ⟨⟨_, func258, by kernel_rfl, by kernel_rfl⟩, emp, walk⟩
end Ag2
namespace Ac0
noncomputable def sig : Sig := ⟨[pL, pL], [oB]⟩
noncomputable def cfg : Cfg := cl (cx []) fun id => match id with | 4 => ([0, 1, 12, 13], []) | _ => ([], [])
noncomputable def fin := finK cfg.c sig [.tmp 4]
noncomputable def F (d : LI × LI × Unit) : OB := anyK (a9q cfg fin (bd f259) (a5e sig.ps d 26))
variable (k : Nat) (x3 x4 : LI) (i5 i6 : Int)
noncomputable def l4 : OB := Vm.runT cfg fin k [.inLoop (sub [1, 1, 0, 1, 0, 0] (bd f259)), .inBlock 0, .code (sub [1, 1, 1] (bd f259))] ⟨[vL x3, vL x4, dD, dD, dD, dD, dD, dD, dD, dD, dD, dD, vI i5, vI i6] ++ a8I 12, []⟩
theorem l4_eq : l4 (k + 1) x3 x4 i5 i6 = if (decide (i6 < i5)) = true then if 0 ≤ i6 ∧ i6 < (x3.length : Int) then if 0 ≤ i6 ∧ i6 < (x4.length : Int) then if ((x3.getD i6.toNat 0 : Int) != (x4.getD i6.toNat 0 : Int)) = true then some ((false, ()), ()) else l4 k x3 x4 i5 (IntKind.i64.wrap (i6 + 1)) else none else none else some ((true, ()), ()) := by kernel_rfl
variable (s1_1 s2_2 : LI)
noncomputable def T : OB := if ((s1_1.length : Int) != (s2_2.length : Int)) = true then some ((false, ()), ()) else l4 k s1_1 s2_2 (s1_1.length : Int) (0 : Int)
theorem of {r} (h : Ev (fun k => T k s1_1 s2_2) r) : F (s1_1, s2_2, ()) = some r := Ev.run (fun k => by kernel_rfl) h
theorem S : a3x prog ⟨259, sig, F⟩ := sound_k (res := [.tmp 4]) func259 (cok nM)
noncomputable def cloG (y : Unit) (d : LI × LI × Unit) : Option (Bool × Unit) := (F (a9c [] [(false, tL), (false, tL)] d y)).map (·.1)
noncomputable def clo : Clo := ⟨259, ⟨[(false, tL), (false, tL)], [(.val false, .bool, .deep)]⟩, [], cloG⟩
theorem cloS : a2b prog clo := sound_clo (s := ⟨[(false, tL), (false, tL)], [(.val false, .bool, .deep)]⟩) (caps := []) rfl S
end Ac0
namespace Af3
noncomputable def sig : Sig := ⟨[pQ], [oC]⟩
noncomputable def cfg : Cfg := cf ⟨a2X tabl, [⟨156, Ad6.sig, Ad6.F⟩, ⟨257, Ag4.sig, Ag4.F⟩, ⟨258, Ag2.sig, Ag2.F⟩], [Aa3.clo, Ac0.clo], [], [], []⟩
noncomputable def fin := finK cfg.c sig [.cell 2 32]
noncomputable def F (d : LL × Unit) : OQ := anyK (a9q cfg fin (bd f188) (a5e sig.ps d 11))
variable (list_1 : LL)
noncomputable def T : OQ := (Ad6.F (list_1, ())).bind fun r2 => (Ag4.F (r2.1.1, Aa3.cloG (()), ())).bind fun r3 => (Ag2.F (r3.2.1, Ac0.cloG (()), ())).bind fun r4 => some ((r4.1.1, ()), ())
theorem eq : F (list_1, ()) = T list_1 := eq_any fun k => by kernel_rfl
theorem S : a3x prog ⟨188, sig, F⟩ := sound_k (res := [.cell 2 32]) func188 (⟨nM, mixed_ok, tab_ok tab_good, cM ⟨Ad6.S, cM ⟨Ag4.S, cM ⟨Ag2.S, nM⟩⟩⟩, cM ⟨Aa3.cloS, cM ⟨Ac0.cloS, nM⟩⟩, nM⟩)
end Af3
namespace Ac4
noncomputable def sig : Sig := ⟨[pC, pC, pL], [oC, oI]⟩
noncomputable def cfg : Cfg := cl (cx [⟨186, Ab1.sig, Ab1.F⟩, ⟨187, Ab0.sig, Ab0.F⟩, ⟨188, Af3.sig, Af3.F⟩]) fun id => match id with | 6 => ([2, 3, 6, 9, 21, 22, 23], [12, 24, 36]) | _ => ([], [])
noncomputable def fin := finK cfg.c sig [.cell 6 32, .tmp 7]
noncomputable def F (d : LL × LL × LI × Unit) : Option ((LL × Int × Unit) × (Unit)) := anyK (a9q cfg fin (bd f96) (a5e sig.ps d 37))
variable (k : Nat) (x5 : LI) (x6 : LL) (i7 i8 : Int) (x9 x10 x11 : LL)
noncomputable def l6 : Option ((LL × Int × Unit) × (Unit)) := Vm.runT cfg fin k [.inLoop (sub [1, 1, 1, 0, 1, 0, 0] (bd f96)), .inBlock 0, .code (sub [1, 1, 1, 1] (bd f96))] ⟨[dD, dD, vL x5, .ref 12 (.root 0), dD, dD, .ref 24 (.root 0), dD, dD, .view 36 (.root 0) 1 false, dD, dD, dD, dD, dD, dD, dD, dD, dD, dD, dD, vQ x6, vI i7, vI i8] ++ a8I 13, [(12, ⟨true, [cQ x9]⟩), (24, ⟨true, [dQ x10]⟩), (36, ⟨false, [dQ x11]⟩)]⟩
theorem l6_eq : l6 (k + 1) x5 x6 i7 i8 x9 x10 x11 = if (decide (i8 < i7)) = true then if 0 ≤ i8 ∧ i8 < (x6.length : Int) then (Ab0.F (x9, x5, x6.getD i8.toNat ([] : LI), ())).bind fun r12 => if x11.length + [r12.1.1].length ≤ bigA then l6 k x5 x6 i7 (IntKind.i64.wrap (i8 + 1)) x9 x10 (x11 ++ [r12.1.1]) else none else none else (Af3.F (x11, ())).bind fun r13 => some ((r13.1.1, ((0 : Int), ())), ()) := by kernel_rfl
variable (a_1 b_2 : LL) (images_3 : LI)
noncomputable def T : Option ((LL × Int × Unit) × (Unit)) := (Ab1.F (a_1, b_2, images_3, ())).bind fun r4 => if (r4.1.1 != 0) = true then some (([], (r4.1.1, ())), ()) else l6 k images_3 a_1 (a_1.length : Int) (0 : Int) a_1 ([] : LL) ([])
theorem of {r} (h : Ev (fun k => T k a_1 b_2 images_3) r) : F (a_1, b_2, images_3, ()) = some r := Ev.run (fun k => by kernel_rfl) h
theorem S : a3x prog ⟨96, sig, F⟩ := sound_k (res := [.cell 6 32, .tmp 7]) func96 (cok (cM ⟨Ab1.S, cM ⟨Ab0.S, cM ⟨Af3.S, nM⟩⟩⟩))
end Ac4
namespace Ad5
noncomputable def sig : Sig := ⟨[pC, pC, pL], [oC, oI]⟩
noncomputable def cfg : Cfg := cf (cx [⟨96, Ac4.sig, Ac4.F⟩])
noncomputable def fin := finK cfg.c sig [.cell 6 32, .tmp 7]
noncomputable def F (d : LL × LL × LI × Unit) : Option ((LL × Int × Unit) × (Unit)) := anyK (a9q cfg fin (bd f43) (a5e sig.ps d 21))
variable (c_1 base_2 : LL) (images_3 : LI)
noncomputable def T : Option ((LL × Int × Unit) × (Unit)) := (Ac4.F (c_1, base_2, images_3, ())).bind fun r4 => if (r4.1.2.1 == 7) = true then some ((r4.1.1, ((6 : Int), ())), ()) else some ((r4.1.1, (r4.1.2.1, ())), ())
theorem eq : F (c_1, base_2, images_3, ()) = T c_1 base_2 images_3 := eq_any fun k => by kernel_rfl
theorem S : a3x prog ⟨43, sig, F⟩ := sound_k (res := [.cell 6 32, .tmp 7]) func43 (cok (cM ⟨Ac4.S, nM⟩))
end Ad5
namespace Ad7
noncomputable def sig : Sig := ⟨[pL, pI], [oI]⟩
noncomputable def cfg : Cfg := cl (cx []) fun id => match id with | 2 => ([0, 1, 5], []) | _ => ([], [])
noncomputable def fin := finK cfg.c sig [.tmp 4]
noncomputable def F (d : LI × Int × Unit) : OI := anyK (a9q cfg fin (bd f23) (a5e sig.ps d 21))
variable (k : Nat) (x3 : LI) (i4 i5 : Int)
noncomputable def l2 : OI := Vm.runT cfg fin k [.inLoop (sub [1, 0, 1, 0, 0] (bd f23)), .inBlock 0, .code (sub [1, 1] (bd f23))] ⟨[vL x3, vI i4, dD, dD, dD, vI i5] ++ a8I 15, []⟩
theorem l2_eq : l2 (k + 1) x3 i4 i5 = if (decide (i5 < (x3.length : Int))) = true then if 0 ≤ i5 ∧ i5 < (x3.length : Int) then if ((x3.getD i5.toNat 0 : Int) != i4) = true then some (((-1 : Int), ()), ()) else l2 k x3 (IntKind.i64.wrap (i4 + 1)) (IntKind.i64.wrap (i5 + 1)) else none else some ((i4, ()), ()) := by kernel_rfl
variable (a_1 : LI) (k_2 : Int)
noncomputable def T : OI := l2 k a_1 k_2 (0 : Int)
theorem of {r} (h : Ev (fun k => T k a_1 k_2) r) : F (a_1, k_2, ()) = some r := Ev.run (fun k => by kernel_rfl) h
theorem S : a3x prog ⟨23, sig, F⟩ := sound_k (res := [.tmp 4]) func23 (cok nM)
end Ad7
namespace Ad8
noncomputable def sig : Sig := ⟨[pQ, pI], [oI]⟩
noncomputable def cfg : Cfg := cl (cx [⟨23, Ad7.sig, Ad7.F⟩]) fun id => match id with | 2 => ([0, 1, 5], []) | _ => ([], [])
noncomputable def fin := finK cfg.c sig [.tmp 4]
noncomputable def F (d : LL × Int × Unit) : OI := anyK (a9q cfg fin (bd f97) (a5e sig.ps d 21))
variable (k : Nat) (x3 : LL) (i4 i5 : Int)
noncomputable def l2 : OI := Vm.runT cfg fin k [.inLoop (sub [1, 0, 1, 0, 0] (bd f97)), .inBlock 0, .code (sub [1, 1] (bd f97))] ⟨[vQ x3, vI i4, dD, dD, dD, vI i5] ++ a8I 15, []⟩
theorem l2_eq : l2 (k + 1) x3 i4 i5 = if (decide (i5 < (x3.length : Int))) = true then if 0 ≤ i5 ∧ i5 < (x3.length : Int) then (Ad7.F (x3.getD i5.toNat ([] : LI), i4, ())).bind fun r6 => if (decide (r6.1.1 < 0)) = true then some (((-1 : Int), ()), ()) else l2 k x3 r6.1.1 (IntKind.i64.wrap (i5 + 1)) else none else some ((i4, ()), ()) := by kernel_rfl
variable (a_1 : LL) (k_2 : Int)
noncomputable def T : OI := l2 k a_1 k_2 (0 : Int)
theorem of {r} (h : Ev (fun k => T k a_1 k_2) r) : F (a_1, k_2, ()) = some r := Ev.run (fun k => by kernel_rfl) h
theorem S : a3x prog ⟨97, sig, F⟩ := sound_k (res := [.tmp 4]) func97 (cok (cM ⟨Ad7.S, nM⟩))
end Ad8
namespace Af6
noncomputable def sig : Sig := ⟨[pC, pI], [oI]⟩
noncomputable def cfg : Cfg := cf (cx [⟨97, Ad8.sig, Ad8.F⟩])
noncomputable def fin := finK cfg.c sig [.tmp 4]
noncomputable def F (d : LL × Int × Unit) : OI := anyK (a9q cfg fin (bd f44) (a5e sig.ps d 12))
variable (a_1 : LL) (k_2 : Int)
noncomputable def T : OI := (Ad8.F (a_1, k_2, ())).bind fun r3 => if (decide (r3.1.1 < 0)) = true then some (((-1 : Int), ()), ()) else some ((r3.1.1, ()), ())
theorem eq : F (a_1, k_2, ()) = T a_1 k_2 := eq_any fun k => by kernel_rfl
theorem S : a3x prog ⟨44, sig, F⟩ := sound_k (res := [.tmp 4]) func44 (cok (cM ⟨Ad8.S, nM⟩))
end Af6
namespace Ae6
noncomputable def sig : Sig := ⟨[pC, pC, pL], [oB]⟩
noncomputable def cfg : Cfg := cf ⟨a2X tabl, [⟨19, Aa5.sig, Aa5.F⟩, ⟨22, Aa9.sig, Aa9.F⟩, ⟨29, Aa4.sig, Aa4.F⟩, ⟨35, Ad9.sig, Ad9.F⟩, ⟨37, Aa6.sig, Aa6.F⟩, ⟨39, Ab8.sig, Ab8.F⟩, ⟨40, Aa8.sig, Aa8.F⟩, ⟨42, Ac1.sig, Ac1.F⟩, ⟨43, Ad5.sig, Ad5.F⟩, ⟨44, Af6.sig, Af6.F⟩, ⟨29, Aa4.sigF, Aa4.F⟩, ⟨37, Aa6.sigF, Aa6.F⟩], [], [], [], [35, 37, 39]⟩
noncomputable def fin := finK cfg.c sig [.tmp 6]
noncomputable def F (d : LL × LL × LI × Unit) : OB := anyK (a9q cfg fin (bd f6) (a5e sig.ps d 140))
variable (toArray_1 a_2 : LL) (a_3 : LI)
noncomputable def T : OB := if (decide ((a_3.length : Int) > 1048576)) = true then some ((true, ()), ()) else (Ad9.F (toArray_1, (1048576 : Int), ())).bind fun r4 => if (decide (r4.1.1 < 0)) = true then some ((true, ()), ()) else (Ad9.F (a_2, r4.1.1, ())).bind fun r5 => if (decide (r5.1.1 < 0)) = true then some ((true, ()), ()) else (Aa6.F (toArray_1, ())).bind fun r6 => (Aa6.F (a_2, ())).bind fun r7 => (Aa4.F (a_3, ())).bind fun r8 => (Ac1.F (r6.1.1, r7.1.1, r8.1.1, ())).bind fun r9 => (Aa6.F (toArray_1, ())).bind fun r10 => (Aa6.F (a_2, ())).bind fun r11 => (Aa4.F (a_3, ())).bind fun r12 => (Ad5.F (r10.1.1, r11.1.1, r12.1.1, ())).bind fun r13 => (Ab8.F (r13.1.1, r9.1.1, ())).bind fun r14 => if (!r14.1.1) = true then some ((false, ()), ()) else if (r13.1.2.1 != r9.1.2.1) = true then some ((false, ()), ()) else (Aa6.F (toArray_1, ())).bind fun r15 => (Ab8.F (r10.1.1, r15.1.1, ())).bind fun r16 => if (!r16.1.1) = true then some ((false, ()), ()) else (Aa6.F (a_2, ())).bind fun r17 => (Ab8.F (r11.1.1, r17.1.1, ())).bind fun r18 => if (!r18.1.1) = true then some ((false, ()), ()) else (Aa4.F (a_3, ())).bind fun r19 => (Aa5.F (r12.1.1, r19.1.1, ())).bind fun r20 => if (!r20.1.1) = true then some ((false, ()), ()) else (Aa8.F (r10.1.1, (1 : Int), ())).bind fun r21 => (Aa8.F (r11.1.1, r21.1.1, ())).bind fun r22 => (Aa9.F (r12.1.1, r22.1.1, ())).bind fun r23 => if (decide (r23.1.1 < 0)) = true then some ((false, ()), ()) else (Ab8.F (r13.1.1, r9.1.1, ())).bind fun r24 => if (!r24.1.1) = true then some ((false, ()), ()) else if (r13.1.2.1 != r9.1.2.1) = true then some ((false, ()), ()) else (Aa8.F (r13.1.1, (1 : Int), ())).bind fun r25 => (Af6.F (r25.2.1, (1 : Int), ())).bind fun r26 => if (decide (r26.1.1 < 0)) = true then some ((false, ()), ()) else if (r26.1.1 != r25.1.1) = true then some ((false, ()), ()) else (Aa6.F (toArray_1, ())).bind fun r27 => (Aa6.F (a_2, ())).bind fun r28 => (Aa4.F (a_3, ())).bind fun r29 => (Ad5.F (r27.1.1, r28.1.1, r29.1.1, ())).bind fun r30 => (Ab8.F (r30.1.1, r9.1.1, ())).bind fun r31 => if (!r31.1.1) = true then some ((false, ()), ()) else if (r30.1.2.1 != r9.1.2.1) = true then some ((false, ()), ()) else (Af6.F (r25.2.1, (1 : Int), ())).bind fun r32 => if (decide (r32.1.1 < 0)) = true then some ((false, ()), ()) else if (r32.1.1 != r25.1.1) = true then some ((false, ()), ()) else some ((true, ()), ())
theorem eq : F (toArray_1, a_2, a_3, ()) = T toArray_1 a_2 a_3 := eq_any fun k => by kernel_rfl
theorem S : a3x prog ⟨6, sig, F⟩ := sound_k (res := [.tmp 6]) func6 (⟨nM, mixed_ok, tab_ok tab_good, cM ⟨Aa5.S, cM ⟨Aa9.S, cM ⟨Aa4.S, cM ⟨Ad9.S, cM ⟨Aa6.S, cM ⟨Ab8.S, cM ⟨Aa8.S, cM ⟨Ac1.S, cM ⟨Ad5.S, cM ⟨Af6.S, cM ⟨Aa4.SF, cM ⟨Aa6.SF, nM⟩⟩⟩⟩⟩⟩⟩⟩⟩⟩⟩⟩, nM, nM⟩)
end Ae6
end Go.Proofs.YtjimdbbeilfkfaaGreat
