/- The functions, as the machine runs them. -/
import Derived.Test.YtfdnjokpgjnmnaaVm4
import Derived.Test.YtfdnjokpgjnmnaaProg
import Derived.KernelRfl
import Derived.WalkKit
import Derived.Lib.Walk
import Derived.Lib.AppendZeros
import Derived.Sort.WalkA
import Derived.Sort.WalkB2
import Derived.Sort.WalkB12
import Derived.Deep.LoopGhost
import Derived.Shelf.RegionOpenPlain
import Derived.Lib.SliceRun
namespace Go.Proofs.Ytfdnjokpgjnmnaa
open Go Go.Vm
set_option linter.unusedVariables false
set_option linter.unusedSimpArgs false
open Go.Proofs.Try
abbrev LI := List Int
abbrev LL := List LI
abbrev MX := Int × Int × Int × LI
abbrev LM := List MX
abbrev SF := LL × Int × LI × LM
abbrev OI := Option ((Int × Unit) × Unit)
abbrev OB := Option ((Bool × Unit) × Unit)
abbrev OL := Option ((LI × Unit) × Unit)
abbrev OQ := Option ((LL × Unit) × Unit)
abbrev OM := Option ((MX × Unit) × Unit)
abbrev OS := Option ((SF × Unit) × Unit)
abbrev tI : Ty := .int .i64
abbrev tL : Ty := .sl tI
abbrev tQ : Ty := .sl tL
abbrev cI (x : Int) : Cell := ⟨tI, .sh, x⟩
abbrev cL (x : LI) : Cell := ⟨tL, .sh, x⟩
abbrev dL (x : LI) : Cell := ⟨tL, .deep, x⟩
abbrev cQ (x : LL) : Cell := ⟨tQ, .sh, x⟩
abbrev dQ (x : LL) : Cell := ⟨tQ, .deep, x⟩
abbrev vI (x : Int) : TV := .val false [cI x]
abbrev vL (x : LI) : TV := .val false [cL x]
abbrev vQ (x : LL) : TV := .val false [cQ x]
def tabl : List (Nat × TInfo) := [
  (2, ⟨false, tI, 0, []⟩),
  (3, ⟨false, tI, 0, []⟩),
  (4, ⟨false, .bool, 0, []⟩),
  (26, ⟨false, tL, 2, []⟩),
  (38, ⟨false, tQ, 26, []⟩),
  (40, ⟨true, tQ, 0, [(0, 1, false)]⟩),
  (42, ⟨true, tQ, 0, [(0, 1, false)]⟩),
  (67, ⟨false, .any, 0, []⟩),
  (102, ⟨false, tL, 3, []⟩),
  (104, ⟨false, (.int .u64), 0, []⟩)]
theorem tab_good : tabB Go.Proofs.Try.prog tabl = true := by kernel_rfl
theorem tab_open : b3P Go.Proofs.Try.prog tabl = true := by kernel_rfl
theorem mixed_ok : Go.Proofs.Try.prog.follows .mixedOrders = true := by kernel_rfl
set_option maxHeartbeats 2000000 in
set_option maxRecDepth 100000 in
theorem slices_Grow_Lint64_int64.grow0 (w : World) : Calls Go.Proofs.Try.prog 92 #[.slice none 0 0, .int .i64 ((0 : Nat) : Int)] w fun e w' => e = .returned (.slice none 0 0) ∧ w' = w := by
  have h2 : Go.RowKit.wrap64 (((0 : Nat) : Int) - ((0 : Nat) : Int)) = 0 := by unfold Go.RowKit.wrap64; omega
  go_enter Go.Proofs.Try.func92, Go.Proofs.Try.ntmps92
  go_wp2
  go_ret
  exact ⟨rfl, rfl⟩
set_option maxHeartbeats 4000000 in
set_option maxRecDepth 100000 in
theorem slices_Grow_Lint64_int64.grow1 (w : World) (n : Nat) (h0 : 0 < n) (hn : n ≤ 1099511627776) (i : TypeInfo) (z : Value) (hi : Go.Proofs.Try.prog.info? 2 = some i) (hz : i.zero = some z) (hs : 0 < i.size) (hb : i.bytes ≤ 256) :
    Calls Go.Proofs.Try.prog 92 #[.slice none 0 0, .int .i64 (n : Int)] w fun e w' => ∃ G, n ≤ G ∧ G ≤ 9223372036854775807 ∧ e = .returned (.slice (some ⟨w.heap.size, 0, none⟩) 0 G) ∧ w' = w.drew.alloc (.cells (Builtin.zeroCells z.cells n ++ Builtin.zeroCells z.cells (G - n)) 2) := by
  have h1 : ¬ ((n : Int) < 0) := by omega
  have h2 : Go.RowKit.wrap64 (((0 : Nat) : Int) - ((0 : Nat) : Int)) = 0 := by unfold Go.RowKit.wrap64; omega
  have h3 : Go.RowKit.wrap64 ((n : Int) - 0) = (n : Int) := by unfold Go.RowKit.wrap64; omega
  have h4 : (n : Int) > 0 := by omega
  have hm : n * i.bytes ≤ 1099511627776 * 256 := Nat.mul_le_mul hn hb
  have hrz : ∀ ty, (Builtin.append_ #[26, 3] ty #[.slice none 0 0, .int .i64 (n : Int)]).run Go.Proofs.Try.prog w =
      .ok (.slice (some ⟨w.heap.size, 0, none⟩) n (grownCap w n 0 2)) (w.drew.alloc (.cells (Builtin.zeroCells z.cells n ++ Builtin.zeroCells z.cells (grownCap w n 0 2 - n)) 2)) := fun ty =>
    Lib.run_append_nil_zeros (P := Go.Proofs.Try.prog) w 26 3 ty 2 i z .i64 .i64 (by kernel_rfl) (by kernel_rfl) hi hz n h0 hs (by omega) (by omega)
  have hGn : n ≤ grownCap w n 0 2 := grownCap_ge w _ _ _
  obtain ⟨G, hG⟩ : ∃ G, G = grownCap w n 0 2 := ⟨_, rfl⟩
  have hG63 : G ≤ 9223372036854775807 := by
    have := grownCap_le_maxLen w n 0 2 (by unfold maxLen; omega)
    rw [← hG] at this
    unfold maxLen at this
    omega
  rw [← hG] at hrz hGn
  clear hG
  refine Calls.mono (R := fun e w' => e = .returned (.slice (some ⟨w.heap.size, 0, none⟩) 0 G) ∧ w' = w.drew.alloc (.cells (Builtin.zeroCells z.cells n ++ Builtin.zeroCells z.cells (G - n)) 2)) ?_ fun e w' h => ⟨G, hGn, hG63, h.1, h.2⟩
  clear hi hz hs hb hm
  go_enter Go.Proofs.Try.func92, Go.Proofs.Try.ntmps92
  go_wp2_with (at_builtin; refine Lib.wpList_append_run _ rfl _ _ _ _ rfl _ _ rfl rfl _ _ (hrz _) ?_)
  all_goals (go_ret; exact ⟨rfl, rfl⟩)
theorem slices_Grow_Lint64_int64.growOK : b1h Go.Proofs.Try.prog (92, tI) := by
  have hT : a2X tabl 2 = some ⟨false, tI, 0, []⟩ := by kernel_rfl
  obtain ⟨inf, h1, h2, h3, h4, h5⟩ := (tab_ok tab_good).info 2 _ hT
  exact growOK_of ⟨Go.Proofs.Try.f92, Go.Proofs.Try.func92, by kernel_rfl, by kernel_rfl⟩ (a6I (tab_ok tab_good) hT) slices_Grow_Lint64_int64.grow0 fun w n a b => slices_Grow_Lint64_int64.grow1 w n a b inf _ h1 h5 (by rw [h2]; exact a3i _) h4
abbrev pC : PS := .val true tQ
abbrev pQ : PS := .val false tQ
abbrev pL : PS := .val false tL
abbrev pI : PS := .val false tI
abbrev qC : PS := .rptr tQ
abbrev oI : OutK × Ty × Vm.Mode := (.val false, tI, .deep)
abbrev oB : OutK × Ty × Vm.Mode := (.val false, .bool, .deep)
abbrev oL : OutK × Ty × Vm.Mode := (.val false, tL, .deep)
abbrev oQ : OutK × Ty × Vm.Mode := (.val false, tQ, .deep)
abbrev oC : OutK × Ty × Vm.Mode := (.val true, tQ, .deep)
abbrev bd (f : Func) : Code := f.body.getD .skip
abbrev cx (l : List Vm.Callee) : Ctx := ⟨a2X tabl, l, [], [], [], []⟩
abbrev cf (c : Ctx) : Cfg := ⟨c, [], [], fun _ => ([], []), fun _ => []⟩
abbrev cl (c : Ctx) (f : Nat → List Nat × List Nat) : Cfg := ⟨c, [], [], f, fun _ => []⟩
theorem nM {α : Type} {p : α → Prop} : ∀ x ∈ ([] : List α), p x := List.forall_mem_nil _
theorem cM {α : Type} {p : α → Prop} {a : α} {l : List α} (h : p a ∧ ∀ x ∈ l, p x) : ∀ x ∈ a :: l, p x := List.forall_mem_cons.2 h
theorem cok {l : List Vm.Callee} (h : ∀ e ∈ l, a3x prog e) : CtxOK prog (cx l) := ⟨nM, mixed_ok, tab_ok tab_good, h, nM, nM⟩
abbrev dD : TV := .dead

namespace Aa4
noncomputable def sig : Sig := ⟨[pL, pL], [oB]⟩
noncomputable def cfg : Cfg := cl (cx []) fun id => match id with | 4 => ([0, 1, 5], []) | _ => ([], [])
noncomputable def fin := finK cfg.c sig [.tmp 4]
noncomputable def F (d : LI × LI × Unit) : OB := anyK (a9q cfg fin (bd f9) (a5e sig.ps d 26))
variable (k : Nat) (x3 x4 : LI) (i5 : Int)
noncomputable def l4 : OB := Vm.runT cfg fin k [.inLoop (sub [1, 1, 0, 1, 0, 0] (bd f9)), .inBlock 0, .code (sub [1, 1, 1] (bd f9))] ⟨[vL x3, vL x4, dD, dD, dD, vI i5] ++ a8I 20, []⟩
theorem l4_eq : l4 (k + 1) x3 x4 i5 = if (decide (i5 < (x3.length : Int))) = true then if 0 ≤ i5 ∧ i5 < (x3.length : Int) then if 0 ≤ i5 ∧ i5 < (x4.length : Int) then if ((x3.getD i5.toNat 0 : Int) != (x4.getD i5.toNat 0 : Int)) = true then some ((false, ()), ()) else l4 k x3 x4 (IntKind.i64.wrap (i5 + 1)) else none else none else some ((true, ()), ()) := by kernel_rfl
variable (a_1 b_2 : LI)
noncomputable def T : OB := if ((a_1.length : Int) != (b_2.length : Int)) = true then some ((false, ()), ()) else l4 k a_1 b_2 (0 : Int)
theorem of {r} (h : Ev (fun k => T k a_1 b_2) r) : F (a_1, b_2, ()) = some r := Ev.run (fun k => by kernel_rfl) h
theorem S : a3x prog ⟨9, sig, F⟩ := sound_k (res := [.tmp 4]) func9 (cok nM)
end Aa4
namespace Ab0
noncomputable def sig : Sig := ⟨[.wr false tL .deep, pI], [oI]⟩
noncomputable def cfg : Cfg := ⟨cx [], [0], [], fun id => match id with | 2 => ([0, 1, 5], [0]) | _ => ([], []), fun _ => []⟩
noncomputable def fin := finK cfg.c sig [.tmp 4]
noncomputable def F (d : LI × Int × Unit) : Option ((Int × Unit) × (LI × Unit)) := anyK (a9q cfg fin (bd f12) (a5e sig.ps d 19))
variable (k : Nat) (i3 i4 : Int) (x5 : LI)
noncomputable def l2 : Option ((Int × Unit) × (LI × Unit)) := Vm.runT cfg fin k [.inLoop (sub [1, 0, 1, 0, 0] (bd f12)), .inBlock 0, .code (sub [1, 1] (bd f12))] ⟨[.view 0 (.root 0) 1 false, vI i3, dD, dD, dD, vI i4] ++ a8I 13, [(0, ⟨false, [dL x5]⟩)]⟩
theorem l2_eq : l2 (k + 1) i3 i4 x5 = if (decide (i4 < (x5.length : Int))) = true then if 0 ≤ i4 ∧ i4 < (x5.length : Int) then l2 k (IntKind.i64.wrap (i3 + 1)) (IntKind.i64.wrap (i4 + 1)) (x5.set i4.toNat i3) else none else some ((i3, ()), (x5, ())) := by kernel_rfl
variable (a_1 : LI) (k_2 : Int)
noncomputable def T : Option ((Int × Unit) × (LI × Unit)) := l2 k k_2 (0 : Int) a_1
theorem of {r} (h : Ev (fun k => T k a_1 k_2) r) : F (a_1, k_2, ()) = some r := Ev.run (fun k => by kernel_rfl) h
theorem S : a3x prog ⟨12, sig, F⟩ := sound_k (res := [.tmp 4]) func12 (cok nM)
end Ab0
namespace Af4
noncomputable def sig : Sig := ⟨[pL, pI], [oI]⟩
noncomputable def cfg : Cfg := cf (cx [])
noncomputable def fin := finK cfg.c sig [.tmp 4]
noncomputable def F (d : LI × Int × Unit) : OI := anyK (a9q cfg fin (bd f55) (a5e sig.ps d 12))
variable (a_1 : LI) (left_2 : Int)
noncomputable def T : OI := if (decide ((IntKind.i64.wrap (left_2 - (a_1.length : Int))) < 0)) = true then some (((-1 : Int), ()), ()) else some ((IntKind.i64.wrap (left_2 - (a_1.length : Int)), ()), ())
theorem eq : F (a_1, left_2, ()) = T a_1 left_2 := eq_any fun k => by kernel_rfl
theorem S : a3x prog ⟨55, sig, F⟩ := sound_k (res := [.tmp 4]) func55 (cok nM)
end Af4
namespace Ac3
noncomputable def sig : Sig := ⟨[pQ, pI], [oI]⟩
noncomputable def cfg : Cfg := cl (cx [⟨55, Af4.sig, Af4.F⟩]) fun id => match id with | 5 => ([0, 1, 5], []) | _ => ([], [])
noncomputable def fin := finK cfg.c sig [.tmp 4]
noncomputable def F (d : LL × Int × Unit) : OI := anyK (a9q cfg fin (bd f30) (a5e sig.ps d 27))
variable (k : Nat) (x3 : LL) (i4 i5 : Int)
noncomputable def l5 : OI := Vm.runT cfg fin k [.inLoop (sub [1, 1, 1, 0, 1, 0, 0] (bd f30)), .inBlock 0, .code (sub [1, 1, 1, 1] (bd f30))] ⟨[vQ x3, vI i4, dD, dD, dD, vI i5] ++ a8I 21, []⟩
theorem l5_eq : l5 (k + 1) x3 i4 i5 = if (decide (i5 < (x3.length : Int))) = true then if 0 ≤ i5 ∧ i5 < (x3.length : Int) then (Af4.F (x3.getD i5.toNat ([] : LI), i4, ())).bind fun r6 => if (decide (r6.1.1 < 0)) = true then some (((-1 : Int), ()), ()) else l5 k x3 r6.1.1 (IntKind.i64.wrap (i5 + 1)) else none else some ((i4, ()), ()) := by kernel_rfl
variable (a_1 : LL) (left_2 : Int)
noncomputable def T : OI := if (decide ((IntKind.i64.wrap (left_2 - (a_1.length : Int))) < 0)) = true then some (((-1 : Int), ()), ()) else l5 k a_1 (IntKind.i64.wrap (left_2 - (a_1.length : Int))) (0 : Int)
theorem of {r} (h : Ev (fun k => T k a_1 left_2) r) : F (a_1, left_2, ()) = some r := Ev.run (fun k => by kernel_rfl) h
theorem S : a3x prog ⟨30, sig, F⟩ := sound_k (res := [.tmp 4]) func30 (cok (cM ⟨Af4.S, nM⟩))
end Ac3
namespace Af3
noncomputable def sig : Sig := ⟨[pC, pI], [oI]⟩
noncomputable def cfg : Cfg := cf (cx [⟨30, Ac3.sig, Ac3.F⟩])
noncomputable def fin := finK cfg.c sig [.tmp 4]
noncomputable def F (d : LL × Int × Unit) : OI := anyK (a9q cfg fin (bd f14) (a5e sig.ps d 12))
variable (a_1 : LL) (left_2 : Int)
noncomputable def T : OI := (Ac3.F (a_1, left_2, ())).bind fun r3 => if (decide (r3.1.1 < 0)) = true then some (((-1 : Int), ()), ()) else some ((r3.1.1, ()), ())
theorem eq : F (a_1, left_2, ()) = T a_1 left_2 := eq_any fun k => by kernel_rfl
theorem S : a3x prog ⟨14, sig, F⟩ := sound_k (res := [.tmp 4]) func14 (cok (cM ⟨Ac3.S, nM⟩))
end Af3
namespace Ac4
noncomputable def sig : Sig := ⟨[pI, pI, pI], [oB]⟩
noncomputable def cfg : Cfg := cf (cx [])
noncomputable def fin := finK cfg.c sig [.tmp 6]
noncomputable def F (d : Int × Int × Int × Unit) : OB := anyK (a9q cfg fin (bd f48) (a5e sig.ps d 15))
variable (n_1 low_2 high_3 : Int)
noncomputable def T : OB := if (decide (n_1 ≥ low_2)) = true then some ((decide (n_1 ≤ high_3), ()), ()) else some ((false, ()), ())
theorem eq : F (n_1, low_2, high_3, ()) = T n_1 low_2 high_3 := eq_any fun k => by kernel_rfl
theorem S : a3x prog ⟨48, sig, F⟩ := sound_k (res := [.tmp 6]) func48 (cok nM)
end Ac4
namespace Ab7
noncomputable def sig : Sig := ⟨[pL, pI, pI], [oB]⟩
noncomputable def cfg : Cfg := cl (cx [⟨48, Ac4.sig, Ac4.F⟩]) fun id => match id with | 2 => ([0, 1, 2, 7], []) | _ => ([], [])
noncomputable def fin := finK cfg.c sig [.tmp 6]
noncomputable def F (d : LI × Int × Int × Unit) : OB := anyK (a9q cfg fin (bd f32) (a5e sig.ps d 38))
variable (k : Nat) (x4 : LI) (i5 i6 i7 : Int)
noncomputable def l2 : OB := Vm.runT cfg fin k [.inLoop (sub [1, 0, 1, 0, 0] (bd f32)), .inBlock 0, .code (sub [1, 1] (bd f32))] ⟨[vL x4, vI i5, vI i6, dD, dD, dD, dD, vI i7] ++ a8I 30, []⟩
theorem l2_eq : l2 (k + 1) x4 i5 i6 i7 = if (decide (i7 < (x4.length : Int))) = true then if 0 ≤ i7 ∧ i7 < (x4.length : Int) then (Ac4.F ((x4.getD i7.toNat 0 : Int), i5, i6, ())).bind fun r8 => if (!r8.1.1) = true then some ((false, ()), ()) else if (decide (i7 > 0)) = true then if 0 ≤ (IntKind.i64.wrap (i7 - 1)) ∧ (IntKind.i64.wrap (i7 - 1)) < (x4.length : Int) then if 0 ≤ i7 ∧ i7 < (x4.length : Int) then if (decide ((x4.getD (IntKind.i64.wrap (i7 - 1)).toNat 0) ≥ (x4.getD i7.toNat 0 : Int))) = true then some ((false, ()), ()) else l2 k x4 i5 i6 (IntKind.i64.wrap (i7 + 1)) else none else none else l2 k x4 i5 i6 (IntKind.i64.wrap (i7 + 1)) else none else some ((true, ()), ()) := by kernel_rfl
variable (list_1 : LI) (low_2 high_3 : Int)
noncomputable def T : OB := l2 k list_1 low_2 high_3 (0 : Int)
theorem of {r} (h : Ev (fun k => T k list_1 low_2 high_3) r) : F (list_1, low_2, high_3, ()) = some r := Ev.run (fun k => by kernel_rfl) h
theorem S : a3x prog ⟨32, sig, F⟩ := sound_k (res := [.tmp 6]) func32 (cok (cM ⟨Ac4.S, nM⟩))
end Ab7
namespace Af9
noncomputable def sig : Sig := ⟨[pL], [oB]⟩
noncomputable def cfg : Cfg := cf (cx [⟨32, Ab7.sig, Ab7.F⟩, ⟨48, Ac4.sig, Ac4.F⟩])
noncomputable def fin := finK cfg.c sig [.tmp 2]
noncomputable def F (d : LI × Unit) : OB := anyK (a9q cfg fin (bd f56) (a5e sig.ps d 10))
variable (s_1 : LI)
noncomputable def T : OB := (Ac4.F ((s_1.length : Int), (1 : Int), (4 : Int), ())).bind fun r2 => if r2.1.1 = true then (Ab7.F (s_1, (0 : Int), (9 : Int), ())).bind fun r3 => some ((r3.1.1, ()), ()) else some ((false, ()), ())
theorem eq : F (s_1, ()) = T s_1 := eq_any fun k => by kernel_rfl
theorem S : a3x prog ⟨56, sig, F⟩ := sound_k (res := [.tmp 2]) func56 (cok (cM ⟨Ab7.S, cM ⟨Ac4.S, nM⟩⟩))
end Af9
namespace Aa8
noncomputable def sig : Sig := ⟨[pL, pL], [oB]⟩
noncomputable def cfg : Cfg := cl (cx []) fun id => match id with | 4 => ([0, 1, 5], []) | _ => ([], [])
noncomputable def fin := finK cfg.c sig [.tmp 4]
noncomputable def F (d : LI × LI × Unit) : OB := anyK (a9q cfg fin (bd f57) (a5e sig.ps d 40))
variable (k : Nat) (x3 x4 : LI) (i5 : Int)
noncomputable def l4 : OB := Vm.runT cfg fin k [.inLoop (sub [1, 1, 0, 1, 0, 0] (bd f57)), .inBlock 0, .code (sub [1, 1, 1] (bd f57))] ⟨[vL x3, vL x4, dD, dD, dD, vI i5] ++ a8I 34, []⟩
theorem l4_eq : l4 (k + 1) x3 x4 i5 = if (decide (i5 < (x3.length : Int))) = true then if 0 ≤ i5 ∧ i5 < (x3.length : Int) then if 0 ≤ i5 ∧ i5 < (x4.length : Int) then if ((x3.getD i5.toNat 0 : Int) != (x4.getD i5.toNat 0 : Int)) = true then if 0 ≤ i5 ∧ i5 < (x3.length : Int) then if 0 ≤ i5 ∧ i5 < (x4.length : Int) then some ((decide ((x3.getD i5.toNat 0 : Int) < (x4.getD i5.toNat 0 : Int)), ()), ()) else none else none else l4 k x3 x4 (IntKind.i64.wrap (i5 + 1)) else none else none else some ((false, ()), ()) := by kernel_rfl
variable (a_1 b_2 : LI)
noncomputable def T : OB := if ((a_1.length : Int) != (b_2.length : Int)) = true then some ((decide ((a_1.length : Int) < (b_2.length : Int)), ()), ()) else l4 k a_1 b_2 (0 : Int)
theorem of {r} (h : Ev (fun k => T k a_1 b_2) r) : F (a_1, b_2, ()) = some r := Ev.run (fun k => by kernel_rfl) h
theorem S : a3x prog ⟨57, sig, F⟩ := sound_k (res := [.tmp 4]) func57 (cok nM)
end Aa8
namespace Ac5
noncomputable def sig : Sig := ⟨[pL, pL], [oB]⟩
noncomputable def cfg : Cfg := cl (cx []) fun id => match id with | 4 => ([0, 1, 5], []) | _ => ([], [])
noncomputable def fin := finK cfg.c sig [.tmp 4]
noncomputable def F (d : LI × LI × Unit) : OB := anyK (a9q cfg fin (bd f77) (a5e sig.ps d 26))
variable (k : Nat) (x3 x4 : LI) (i5 : Int)
noncomputable def l4 : OB := Vm.runT cfg fin k [.inLoop (sub [1, 1, 0, 1, 0, 0] (bd f77)), .inBlock 0, .code (sub [1, 1, 1] (bd f77))] ⟨[vL x3, vL x4, dD, dD, dD, vI i5] ++ a8I 20, []⟩
theorem l4_eq : l4 (k + 1) x3 x4 i5 = if (decide (i5 < (x3.length : Int))) = true then if 0 ≤ i5 ∧ i5 < (x3.length : Int) then if 0 ≤ i5 ∧ i5 < (x4.length : Int) then if ((x3.getD i5.toNat 0 : Int) != (x4.getD i5.toNat 0 : Int)) = true then some ((false, ()), ()) else l4 k x3 x4 (IntKind.i64.wrap (i5 + 1)) else none else none else some ((true, ()), ()) := by kernel_rfl
variable (a_1 b_2 : LI)
noncomputable def T : OB := if ((a_1.length : Int) != (b_2.length : Int)) = true then some ((false, ()), ()) else l4 k a_1 b_2 (0 : Int)
theorem of {r} (h : Ev (fun k => T k a_1 b_2) r) : F (a_1, b_2, ()) = some r := Ev.run (fun k => by kernel_rfl) h
theorem S : a3x prog ⟨77, sig, F⟩ := sound_k (res := [.tmp 4]) func77 (cok nM)
end Ac5
namespace Ab4
noncomputable def sig : Sig := ⟨[qC, pL], [oI]⟩
noncomputable def cfg : Cfg := cl (cx [⟨77, Ac5.sig, Ac5.F⟩]) fun id => match id with | 2 => ([0, 1, 5], []) | _ => ([], [])
noncomputable def fin := finK cfg.c sig [.tmp 4]
noncomputable def F (d : LL × LI × Unit) : OI := anyK (a9q cfg fin (bd f58) (a5e sig.ps d 25))
variable (k : Nat) (x3 : LL) (x4 : LI) (i5 : Int)
noncomputable def l2 : OI := Vm.runT cfg fin k [.inLoop (sub [1, 0, 1, 0, 0] (bd f58)), .inBlock 0, .code (sub [1, 1] (bd f58))] ⟨[.rptr false [cQ x3], vL x4, dD, dD, dD, vI i5] ++ a8I 19, []⟩
theorem l2_eq : l2 (k + 1) x3 x4 i5 = if (decide (i5 < (x3.length : Int))) = true then if 0 ≤ i5 ∧ i5 < (x3.length : Int) then (Ac5.F (x3.getD i5.toNat ([] : LI), x4, ())).bind fun r6 => if r6.1.1 = true then some ((i5, ()), ()) else l2 k x3 x4 (IntKind.i64.wrap (i5 + 1)) else none else some (((-1 : Int), ()), ()) := by kernel_rfl
variable (c_1 : LL) (s_2 : LI)
noncomputable def T : OI := l2 k c_1 s_2 (0 : Int)
theorem of {r} (h : Ev (fun k => T k c_1 s_2) r) : F (c_1, s_2, ()) = some r := Ev.run (fun k => by kernel_rfl) h
theorem S : a3x prog ⟨58, sig, F⟩ := sound_k (res := [.tmp 4]) func58 (cok (cM ⟨Ac5.S, nM⟩))
end Ab4
namespace Aa3
noncomputable def sig : Sig := ⟨[pL], [oL]⟩
noncomputable def cfg : Cfg := cf (cx [])
noncomputable def fin := finK cfg.c sig [.tmp 2]
noncomputable def F (d : LI × Unit) : OL := anyK (a9q cfg fin (bd f61) (a5e sig.ps d 6))
variable (list_1 : LI)
noncomputable def T : OL := if ([] : LI).length + list_1.length ≤ bigA then some ((([] : LI) ++ list_1, ()), ()) else none
theorem eq : F (list_1, ()) = T list_1 := eq_any fun k => by kernel_rfl
theorem S : a3x prog ⟨61, sig, F⟩ := sound_k (res := [.tmp 2]) func61 (cok nM)
noncomputable def sigF : Sig := ⟨[.val false tL], [(.fr false, tL, .deep)]⟩
theorem SF : a3x prog ⟨61, sigF, F⟩ := sound_fr S
end Aa3
namespace Ab9
noncomputable def sig : Sig := ⟨[pL, pI], [oL]⟩
noncomputable def cfg : Cfg := cf (cx [⟨61, Aa3.sig, Aa3.F⟩])
noncomputable def fin := finK cfg.c sig [.tmp 4]
noncomputable def F (d : LI × Int × Unit) : OL := anyK (a9q cfg fin (bd f59) (a5e sig.ps d 16))
variable (s_1 : LI) (k_2 : Int)
noncomputable def T : OL := if 0 ≤ (0 : Int) ∧ (0 : Int) ≤ k_2 ∧ k_2 ≤ (s_1.length : Int) then (Aa3.F (cutL s_1 (0 : Int) k_2, ())).bind fun r3 => if 0 ≤ (IntKind.i64.wrap (k_2 + (1 : Int))) ∧ (IntKind.i64.wrap (k_2 + (1 : Int))) ≤ (s_1.length : Int) ∧ (s_1.length : Int) ≤ (s_1.length : Int) then if r3.1.1.length + (cutL s_1 (IntKind.i64.wrap (k_2 + (1 : Int))) (s_1.length : Int)).length ≤ bigA then some ((r3.1.1 ++ (cutL s_1 (IntKind.i64.wrap (k_2 + (1 : Int))) (s_1.length : Int)), ()), ()) else none else none else none
theorem eq : F (s_1, k_2, ()) = T s_1 k_2 := eq_any fun k => by kernel_rfl
theorem S : a3x prog ⟨59, sig, F⟩ := sound_k (res := [.tmp 4]) func59 (cok (cM ⟨Aa3.S, nM⟩))
end Ab9
namespace Aa1
noncomputable def sig : Sig := ⟨[qC], [oB]⟩
noncomputable def cfg : Cfg := cl (cx [⟨56, Af9.sig, Af9.F⟩, ⟨57, Aa8.sig, Aa8.F⟩, ⟨58, Ab4.sig, Ab4.F⟩, ⟨59, Ab9.sig, Ab9.F⟩]) fun id => match id with | 4 => ([0, 3], []) | 10 => ([0, 3, 4, 5], []) | _ => ([], [])
noncomputable def fin := finK cfg.c sig [.tmp 2]
noncomputable def F (d : LL × Unit) : OB := anyK (a9q cfg fin (bd f31) (a5e sig.ps d 65))
variable (k : Nat) (x2 : LL) (i3 : Int)
noncomputable def l4 : OB := Vm.runT cfg fin k [.inLoop (sub [1, 1, 0, 1, 0, 0] (bd f31)), .inBlock 0, .code (sub [1, 1, 1] (bd f31))] ⟨[.rptr false [cQ x2], dD, dD, vI i3] ++ a8I 61, []⟩
variable (x6 : LL) (i7 : Int) (x8 : LI) (i9 : Int)
noncomputable def l10 : OB := Vm.runT cfg fin k [.inLoop (sub [1, 1, 0, 1, 0, 0, 1, 0, 0, 1, 1, 1, 0, 0] (bd f31)), .inBlock 2, .inBlock 1, .code (sub [1, 1, 0, 1, 0, 0, 1, 1] (bd f31)), .inLoop (sub [1, 1, 0, 1, 0, 0] (bd f31)), .inBlock 0, .code (sub [1, 1, 1] (bd f31))] ⟨[.rptr false [cQ x6], dD, dD, vI i7, vL x8, vI i9] ++ a8I 59, []⟩
theorem l4_eq : l4 (k + 1) x2 i3 = if (decide (i3 < (x2.length : Int))) = true then if 0 ≤ i3 ∧ i3 < (x2.length : Int) then (Af9.F (x2.getD i3.toNat ([] : LI), ())).bind fun r4 => if (!r4.1.1) = true then some ((false, ()), ()) else if (decide (i3 > 0)) = true then if 0 ≤ (IntKind.i64.wrap (i3 - 1)) ∧ (IntKind.i64.wrap (i3 - 1)) < (x2.length : Int) then (Aa8.F (x2.getD (IntKind.i64.wrap (i3 - 1)).toNat ([] : LI), x2.getD i3.toNat ([] : LI), ())).bind fun r5 => if (!r5.1.1) = true then some ((false, ()), ()) else l10 k x2 i3 (x2.getD i3.toNat ([] : LI)) (0 : Int) else none else l10 k x2 i3 (x2.getD i3.toNat ([] : LI)) (0 : Int) else none else some ((true, ()), ()) := by kernel_rfl
theorem l10_eq : l10 (k + 1) x6 i7 x8 i9 = if (decide (i9 < (x8.length : Int))) = true then if (decide ((x8.length : Int) > 1)) = true then (Ab9.F (x8, i9, ())).bind fun r10 => (Ab4.F (x6, r10.1.1, ())).bind fun r11 => if (decide (r11.1.1 < 0)) = true then some ((false, ()), ()) else l10 k x6 i7 x8 (IntKind.i64.wrap (i9 + 1)) else l4 k x6 (IntKind.i64.wrap (i7 + 1)) else l4 k x6 (IntKind.i64.wrap (i7 + 1)) := by kernel_rfl
variable (toArray_1 : LL)
noncomputable def T : OB := if (decide ((toArray_1.length : Int) > 48)) = true then some ((false, ()), ()) else l4 k toArray_1 (0 : Int)
theorem of {r} (h : Ev (fun k => T k toArray_1) r) : F (toArray_1, ()) = some r := Ev.run (fun k => by kernel_rfl) h
theorem S : a3x prog ⟨31, sig, F⟩ := sound_k (res := [.tmp 2]) func31 (cok (cM ⟨Af9.S, cM ⟨Aa8.S, cM ⟨Ab4.S, cM ⟨Ab9.S, nM⟩⟩⟩⟩))
end Aa1
namespace Ae1
noncomputable def sig : Sig := ⟨[pL, pI], [oB]⟩
noncomputable def cfg : Cfg := cl (cx []) fun id => match id with | 2 => ([0, 1, 5], []) | _ => ([], [])
noncomputable def fin := finK cfg.c sig [.tmp 4]
noncomputable def F (d : LI × Int × Unit) : OB := anyK (a9q cfg fin (bd f60) (a5e sig.ps d 18))
variable (k : Nat) (x3 : LI) (i4 i5 : Int)
noncomputable def l2 : OB := Vm.runT cfg fin k [.inLoop (sub [1, 0, 1, 0, 0] (bd f60)), .inBlock 0, .code (sub [1, 1] (bd f60))] ⟨[vL x3, vI i4, dD, dD, dD, vI i5] ++ a8I 12, []⟩
theorem l2_eq : l2 (k + 1) x3 i4 i5 = if (decide (i5 < (x3.length : Int))) = true then if 0 ≤ i5 ∧ i5 < (x3.length : Int) then if ((x3.getD i5.toNat 0 : Int) == i4) = true then some ((true, ()), ()) else l2 k x3 i4 (IntKind.i64.wrap (i5 + 1)) else none else some ((false, ()), ()) := by kernel_rfl
variable (list_1 : LI) (n_2 : Int)
noncomputable def T : OB := l2 k list_1 n_2 (0 : Int)
theorem of {r} (h : Ev (fun k => T k list_1 n_2) r) : F (list_1, n_2, ()) = some r := Ev.run (fun k => by kernel_rfl) h
theorem S : a3x prog ⟨60, sig, F⟩ := sound_k (res := [.tmp 4]) func60 (cok nM)
end Ae1
namespace Aa0
noncomputable def sig : Sig := ⟨[.wp tQ .shal, pL], []⟩
noncomputable def ctx (self : (LL × LI × Unit) → Option ((Unit) × (LL × Unit))) : Ctx := ⟨a2X tabl, [⟨57, Aa8.sig, Aa8.F⟩, ⟨58, Ab4.sig, Ab4.F⟩, ⟨59, Ab9.sig, Ab9.F⟩, ⟨61, Aa3.sigF, Aa3.F⟩, ⟨78, sig, self⟩], [], [], [], []⟩
noncomputable def cfg (self : (LL × LI × Unit) → Option ((Unit) × (LL × Unit))) : Cfg := ⟨(ctx self), [0], [], fun id => match id with | 2 => ([0, 1, 4], [0]) | 6 => ([0, 1, 5], [0]) | _ => ([], []), fun _ => []⟩
noncomputable def code : Code := (f78).body.getD .skip
noncomputable def fin (self : (LL × LI × Unit) → Option ((Unit) × (LL × Unit))) := finK (ctx self) sig []
noncomputable def step (self : (LL × LI × Unit) → Option ((Unit) × (LL × Unit))) (d : LL × LI × Unit) : Option ((Unit) × (LL × Unit)) := anyK (a9q (cfg self) (fin self) code (a5e sig.ps d 71))
variable (self : (LL × LI × Unit) → Option ((Unit) × (LL × Unit))) (k : Nat) (x4 : LI) (i5 : Int) (x6 : LL)
noncomputable def l2 : Option ((Unit) × (LL × Unit)) := Vm.runT (cfg self) (fin self) k [.inLoop (sub [1, 0, 1, 0, 0] code), .inBlock 0, .code (sub [1, 1] code)] ⟨[.ref 0 (.root 0), vL x4, dD, dD, vI i5] ++ a8I 66, [(0, ⟨true, [⟨tQ, .shal, x6⟩]⟩)]⟩
variable (x9 : LI) (i10 : Int) (x11 : LL)
noncomputable def l6 : Option ((Unit) × (LL × Unit)) := Vm.runT (cfg self) (fin self) k [.inLoop (sub [1, 1, 1, 0, 0, 0] code), .inBlock 2, .code (sub [1, 1, 1, 1] code)] ⟨[.ref 0 (.root 0), vL x9, dD, dD, dD, vI i10] ++ a8I 65, [(0, ⟨true, [⟨tQ, .shal, x11⟩]⟩)]⟩
theorem l2_eq : l2 self (k + 1) x4 i5 x6 = if (decide (i5 < (x4.length : Int))) = true then if (decide ((x4.length : Int) > 1)) = true then (Ab9.F (x4, i5, ())).bind fun r7 => (self (x6, r7.1.1, ())).bind fun r8 => l2 self k x4 (IntKind.i64.wrap (i5 + 1)) r8.2.1 else l6 self k x4 (0 : Int) x6 else l6 self k x4 (0 : Int) x6 := by kernel_rfl
theorem l6_eq : l6 self (k + 1) x9 i10 x11 = if (decide (i10 < (x11.length : Int))) = true then if 0 ≤ i10 ∧ i10 < (x11.length : Int) then (Aa8.F (x11.getD i10.toNat ([] : LI), x9, ())).bind fun r12 => if r12.1.1 = true then l6 self k x9 (IntKind.i64.wrap (i10 + 1)) x11 else if 0 ≤ (0 : Int) ∧ (0 : Int) ≤ i10 ∧ i10 ≤ (x11.length : Int) then if ([] : LL).length + (cutL x11 (0 : Int) i10).length ≤ bigA then (Aa3.F (x9, ())).bind fun r13 => if (([] : LL) ++ (cutL x11 (0 : Int) i10)).length + [r13.1.1].length ≤ bigA then if 0 ≤ i10 ∧ i10 ≤ (x11.length : Int) ∧ (x11.length : Int) ≤ (x11.length : Int) then if ((([] : LL) ++ (cutL x11 (0 : Int) i10)) ++ [r13.1.1]).length + (cutL x11 i10 (x11.length : Int)).length ≤ bigA then let y14 : LL := ((([] : LL) ++ (cutL x11 (0 : Int) i10)) ++ [r13.1.1]) ++ (cutL x11 i10 (x11.length : Int)); some ((), (y14, ())) else none else none else none else none else none else none else if 0 ≤ (0 : Int) ∧ (0 : Int) ≤ i10 ∧ i10 ≤ (x11.length : Int) then if ([] : LL).length + (cutL x11 (0 : Int) i10).length ≤ bigA then (Aa3.F (x9, ())).bind fun r15 => if (([] : LL) ++ (cutL x11 (0 : Int) i10)).length + [r15.1.1].length ≤ bigA then if 0 ≤ i10 ∧ i10 ≤ (x11.length : Int) ∧ (x11.length : Int) ≤ (x11.length : Int) then if ((([] : LL) ++ (cutL x11 (0 : Int) i10)) ++ [r15.1.1]).length + (cutL x11 i10 (x11.length : Int)).length ≤ bigA then let y16 : LL := ((([] : LL) ++ (cutL x11 (0 : Int) i10)) ++ [r15.1.1]) ++ (cutL x11 i10 (x11.length : Int)); some ((), (y16, ())) else none else none else none else none else none := by kernel_rfl
variable (toArray_1 : LL) (a_2 : LI)
noncomputable def T : Option ((Unit) × (LL × Unit)) := (Ab4.F (toArray_1, a_2, ())).bind fun r3 => if (decide (r3.1.1 ≥ 0)) = true then some ((), (toArray_1, ())) else l2 self k a_2 (0 : Int) toArray_1
theorem run (self : (LL × LI × Unit) → Option ((Unit) × (LL × Unit))) (k : Nat) (toArray_1 : LL) (a_2 : LI) : a9q (cfg self) (fin self) code (a5e sig.ps (toArray_1, a_2, ()) 71) k = T self k toArray_1 a_2 := by kernel_rfl
theorem of {r} (h : Ev (fun k => T self k toArray_1 a_2) r) : step self (toArray_1, a_2, ()) = some r := Ev.run (fun k => run self k toArray_1 a_2) h
theorem ok (self : (LL × LI × Unit) → Option ((Unit) × (LL × Unit))) (hs : a3x prog ⟨78, sig, self⟩) : CtxOK prog (ctx self) := ⟨nilM, mixed_ok, tab_ok tab_good, consM ⟨Aa8.S, consM ⟨Ab4.S, consM ⟨Ab9.S, consM ⟨Aa3.SF, consM ⟨hs, nilM⟩⟩⟩⟩⟩, nilM, nilM⟩
theorem stepS (self : (LL × LI × Unit) → Option ((Unit) × (LL × Unit))) (hs : a3x prog ⟨78, sig, self⟩) : a3x prog ⟨78, sig, step self⟩ := b2f (fn := f78) (code := code) (g := cfg self) (res := []) func78 (by kernel_rfl) (by kernel_rfl) (ok self hs) (by kernel_rfl) (by kernel_rfl) (Nat.le_of_ble_eq_true (by kernel_rfl)) (by kernel_rfl)
noncomputable def R : Nat → (LL × LI × Unit) → Option ((Unit) × (LL × Unit)) := recF step
noncomputable def F (d : LL × LI × Unit) : Option ((Unit) × (LL × Unit)) := anyE fun q => R q d
theorem ofR {d : LL × LI × Unit} {r : (Unit) × (LL × Unit)} (h : Ev (fun q => R q d) r) : F d = some r := anyE_of h
theorem S : a3x prog ⟨78, sig, F⟩ := sound_rec ⟨_, func78, by kernel_rfl, by kernel_rfl⟩ fun self h => stepS self h
end Aa0
namespace Ad4
noncomputable def sig : Sig := ⟨[pQ], [(.val true, tQ, .shal)]⟩
noncomputable def cfg : Cfg := ⟨cx [⟨78, Aa0.sig, Aa0.F⟩], [], [], fun id => match id with | 3 => ([0, 2, 3, 4], [8, 12]) | _ => ([], []), fun id => match id with | 3 => [12] | _ => []⟩
noncomputable def fin := finK cfg.c sig [.cell 2 42]
noncomputable def F (d : LL × Unit) : OQ := anyK (a9q cfg fin (bd f62) (a5e sig.ps d 19))
variable (k : Nat) (x2 : LL) (i3 : Int) (x4 x5 : LL)
noncomputable def l3 : OQ := Vm.runT cfg fin k [.inLoop (sub [1, 1, 0, 1, 0, 0] (bd f62)), .inBlock 0, .code (sub [1, 1, 1] (bd f62))] ⟨[vQ x2, dD, .ref 8 (.root 0), .ref 12 (.root 0), vI i3] ++ a8I 14, [(8, ⟨true, [dQ x4]⟩), (12, ⟨true, [⟨tQ, .shal, x5⟩]⟩)]⟩
theorem l3_eq : l3 (k + 1) x2 i3 x4 x5 = if (decide (i3 < (x2.length : Int))) = true then if 0 ≤ i3 ∧ i3 < (x2.length : Int) then (Aa0.F (x5, x2.getD i3.toNat ([] : LI), ())).bind fun r6 => l3 k x2 (IntKind.i64.wrap (i3 + 1)) x4 r6.2.1 else none else some ((x5, ()), ()) := by kernel_rfl
variable (list_1 : LL)
noncomputable def T : OQ := l3 k list_1 (0 : Int) ([] : LL) ([] : LL)
theorem of {r} (h : Ev (fun k => T k list_1) r) : F (list_1, ()) = some r := Ev.run (fun k => by kernel_rfl) h
theorem S : a3x prog ⟨62, sig, F⟩ := sound_k (res := [.cell 2 42]) func62 (cok (cM ⟨Aa0.S, nM⟩))
end Ad4
namespace Ac6
noncomputable def sig : Sig := ⟨[qC, pL], [(.val true, tQ, .shal), oC]⟩
noncomputable def cfg : Cfg := cl (cx [⟨60, Ae1.sig, Ae1.F⟩, ⟨61, Aa3.sig, Aa3.F⟩, ⟨62, Ad4.sig, Ad4.F⟩]) fun id => match id with | 4 => ([0, 1, 4, 5, 6, 7, 8], [16, 20, 24, 28]) | 8 => ([0, 1, 4, 5, 6, 7, 8, 9, 10], [16, 20, 24, 28]) | _ => ([], [])
noncomputable def fin := finK cfg.c sig [.cell 4 42, .cell 5 42]
noncomputable def F (d : LL × LI × Unit) : Option ((LL × LL × Unit) × (Unit)) := anyK (a9q cfg fin (bd f33) (a5e sig.ps d 78))
variable (k : Nat) (x3 : LL) (x4 : LI) (i5 : Int) (x6 x7 x8 x9 : LL)
noncomputable def l4 : Option ((LL × LL × Unit) × (Unit)) := Vm.runT cfg fin k [.inLoop (sub [1, 1, 1, 0, 1, 0, 0] (bd f33)), .inBlock 0, .code (sub [1, 1, 1, 1] (bd f33))] ⟨[.rptr false [cQ x3], vL x4, dD, dD, .ref 16 (.root 0), .ref 20 (.root 0), .view 24 (.root 0) 1 false, .ref 28 (.root 0), vI i5] ++ a8I 69, [(16, ⟨true, [dQ x6]⟩), (20, ⟨true, [dQ x7]⟩), (24, ⟨false, [dQ x8]⟩), (28, ⟨true, [dQ x9]⟩)]⟩
variable (x10 : LL) (x11 : LI) (i12 : Int) (b13 : Bool) (i14 : Int) (x15 x16 x17 x18 : LL)
noncomputable def l8 : Option ((LL × LL × Unit) × (Unit)) := Vm.runT cfg fin k [.inLoop (sub [1, 1, 1, 0, 1, 0, 0, 1, 0, 0, 1, 0, 1, 0, 0] (bd f33)), .inBlock 2, .code (sub [1, 1, 1, 0, 1, 0, 0, 1, 0, 0, 1, 1] (bd f33)), .inBlock 1, .code (sub [1, 1, 1, 0, 1, 0, 0, 1, 1] (bd f33)), .inLoop (sub [1, 1, 1, 0, 1, 0, 0] (bd f33)), .inBlock 0, .code (sub [1, 1, 1, 1] (bd f33))] ⟨[.rptr false [cQ x10], vL x11, dD, dD, .ref 16 (.root 0), .ref 20 (.root 0), .view 24 (.root 0) 1 false, .ref 28 (.root 0), vI i12, .val false [⟨.bool, .sh, b13⟩], vI i14] ++ a8I 67, [(16, ⟨true, [dQ x15]⟩), (20, ⟨true, [dQ x16]⟩), (24, ⟨false, [dQ x17]⟩), (28, ⟨true, [dQ x18]⟩)]⟩
theorem l4_eq : l4 (k + 1) x3 x4 i5 x6 x7 x8 x9 = if (decide (i5 < (x3.length : Int))) = true then l8 k x3 x4 i5 false (0 : Int) x6 x7 x8 x9 else both ( (Ad4.F (x8, ())).bind fun r22 => both ( some ((r22.1.1, (x9, ())), ()) ) ( some ((r22.1.1, (x9, ())), ()) ) ) ( (Ad4.F (x8, ())).bind fun r23 => some ((r23.1.1, (x9, ())), ()) ) := by kernel_rfl
theorem l8_eq : l8 (k + 1) x10 x11 i12 b13 i14 x15 x16 x17 x18 = if 0 ≤ i12 ∧ i12 < (x10.length : Int) then if (decide (i14 < ((x10.getD i12.toNat ([] : LI)).length : Int))) = true then if b13 = true then l8 k x10 x11 i12 true (IntKind.i64.wrap (i14 + 1)) x15 x16 x17 x18 else if 0 ≤ i12 ∧ i12 < (x10.length : Int) then if 0 ≤ i14 ∧ i14 < ((x10.getD i12.toNat ([] : LI)).length : Int) then (Ae1.F (x11, (x10.getD i12.toNat ([] : LI)).getD i14.toNat 0, ())).bind fun r19 => l8 k x10 x11 i12 r19.1.1 (IntKind.i64.wrap (i14 + 1)) x15 x16 x17 x18 else none else none else if b13 = true then if 0 ≤ i12 ∧ i12 < (x10.length : Int) then (Aa3.F (x10.getD i12.toNat ([] : LI), ())).bind fun r20 => if x17.length + [r20.1.1].length ≤ bigA then l4 k x10 x11 (IntKind.i64.wrap (i12 + 1)) x15 x16 (x17 ++ [r20.1.1]) x18 else none else none else if 0 ≤ i12 ∧ i12 < (x10.length : Int) then (Aa3.F (x10.getD i12.toNat ([] : LI), ())).bind fun r21 => if x18.length + [r21.1.1].length ≤ bigA then l4 k x10 x11 (IntKind.i64.wrap (i12 + 1)) x15 x16 x17 (x18 ++ [r21.1.1]) else none else none else none := by kernel_rfl
variable (toArray_1 : LL) (a_2 : LI)
noncomputable def T : Option ((LL × LL × Unit) × (Unit)) := l4 k toArray_1 a_2 (0 : Int) ([] : LL) ([] : LL) ([] : LL) ([] : LL)
theorem of {r} (h : Ev (fun k => T k toArray_1 a_2) r) : F (toArray_1, a_2, ()) = some r := Ev.run (fun k => by kernel_rfl) h
theorem S : a3x prog ⟨33, sig, F⟩ := sound_k (res := [.cell 4 42, .cell 5 42]) func33 (cok (cM ⟨Ae1.S, cM ⟨Aa3.S, cM ⟨Ad4.S, nM⟩⟩⟩))
end Ac6
namespace Af8
noncomputable def sig : Sig := ⟨[pC, pL], [(.val true, tQ, .sh), oC, oI]⟩
noncomputable def cfg : Cfg := cf (cx [⟨31, Aa1.sig, Aa1.F⟩, ⟨32, Ab7.sig, Ab7.F⟩, ⟨33, Ac6.sig, Ac6.F⟩])
noncomputable def fin := finK cfg.c sig [.cell 4 42, .cell 5 42, .tmp 6]
noncomputable def F (d : LL × LI × Unit) : Option ((LL × LL × Int × Unit) × (Unit)) := anyK (a9q cfg fin (bd f15) (a5e sig.ps d 25))
variable (c_1 : LL) (vertices_2 : LI)
noncomputable def T : Option ((LL × LL × Int × Unit) × (Unit)) := (Aa1.F (c_1, ())).bind fun r3 => if (!r3.1.1) = true then some (([], ([], ((1 : Int), ()))), ()) else (Ab7.F (vertices_2, (0 : Int), (9 : Int), ())).bind fun r4 => if (!r4.1.1) = true then some (([], ([], ((2 : Int), ()))), ()) else (Ac6.F (c_1, vertices_2, ())).bind fun r5 => both ( both ( some ((r5.1.1, (r5.1.2.1, ((0 : Int), ()))), ()) ) ( some ((r5.1.1, (r5.1.2.1, ((0 : Int), ()))), ()) ) ) ( some ((r5.1.1, (r5.1.2.1, ((0 : Int), ()))), ()) )
theorem eq : F (c_1, vertices_2, ()) = T c_1 vertices_2 := eq_any fun k => by kernel_rfl
theorem S : a3x prog ⟨15, sig, F⟩ := sound_k (res := [.cell 4 42, .cell 5 42, .tmp 6]) func15 (cok (cM ⟨Aa1.S, cM ⟨Ab7.S, cM ⟨Ac6.S, nM⟩⟩⟩))
end Af8
namespace Aa7
noncomputable def sig : Sig := ⟨[pL], [oL]⟩
noncomputable def cfg : Cfg := cl (cx []) fun id => match id with | 3 => ([0, 3, 4], [12]) | _ => ([], [])
noncomputable def fin := finK cfg.c sig [.tmp 2]
noncomputable def F (d : LI × Unit) : OL := anyK (a9q cfg fin (bd f17) (a5e sig.ps d 22))
variable (k : Nat) (x2 : LI) (i3 : Int) (x4 : LI)
noncomputable def l3 : OL := Vm.runT cfg fin k [.inLoop (sub [1, 1, 0, 1, 0, 0] (bd f17)), .inBlock 0, .code (sub [1, 1, 1] (bd f17))] ⟨[vL x2, dD, dD, .view 12 (.root 0) 1 false, vI i3] ++ a8I 17, [(12, ⟨false, [dL x4]⟩)]⟩
theorem l3_eq : l3 (k + 1) x2 i3 x4 = if (decide (i3 < (x2.length : Int))) = true then if 0 ≤ i3 ∧ i3 < (x2.length : Int) then if 0 ≤ i3 ∧ i3 < (x4.length : Int) then l3 k x2 (IntKind.i64.wrap (i3 + 1)) (x4.set i3.toNat (x2.getD i3.toNat 0 : Int)) else none else none else some ((x4, ()), ()) := by kernel_rfl
variable (a_1 : LI)
noncomputable def T : OL := if 0 ≤ (a_1.length : Int) ∧ (a_1.length : Int) ≤ (bigN : Int) then l3 k a_1 (0 : Int) (List.replicate (a_1.length : Int).toNat (0 : Int)) else none
theorem of {r} (h : Ev (fun k => T k a_1) r) : F (a_1, ()) = some r := Ev.run (fun k => by kernel_rfl) h
theorem S : a3x prog ⟨17, sig, F⟩ := sound_k (res := [.tmp 2]) func17 (cok nM)
end Aa7
namespace Ad2
noncomputable def sig : Sig := ⟨[pQ], [oQ]⟩
noncomputable def cfg : Cfg := cl (cx [⟨17, Aa7.sig, Aa7.F⟩]) fun id => match id with | 3 => ([0, 3, 4], [12]) | _ => ([], [])
noncomputable def fin := finK cfg.c sig [.tmp 2]
noncomputable def F (d : LL × Unit) : OQ := anyK (a9q cfg fin (bd f34) (a5e sig.ps d 23))
variable (k : Nat) (x2 : LL) (i3 : Int) (x4 : LL)
noncomputable def l3 : OQ := Vm.runT cfg fin k [.inLoop (sub [1, 1, 0, 1, 0, 0] (bd f34)), .inBlock 0, .code (sub [1, 1, 1] (bd f34))] ⟨[vQ x2, dD, dD, .view 12 (.root 0) 1 false, vI i3] ++ a8I 18, [(12, ⟨false, [dQ x4]⟩)]⟩
theorem l3_eq : l3 (k + 1) x2 i3 x4 = if (decide (i3 < (x2.length : Int))) = true then if 0 ≤ i3 ∧ i3 < (x2.length : Int) then (Aa7.F (x2.getD i3.toNat ([] : LI), ())).bind fun r5 => if 0 ≤ i3 ∧ i3 < (x4.length : Int) then l3 k x2 (IntKind.i64.wrap (i3 + 1)) (x4.set i3.toNat r5.1.1) else none else none else some ((x4, ()), ()) := by kernel_rfl
variable (a_1 : LL)
noncomputable def T : OQ := if 0 ≤ (a_1.length : Int) ∧ (a_1.length : Int) ≤ (bigN : Int) then l3 k a_1 (0 : Int) (List.replicate (a_1.length : Int).toNat ([] : LI)) else none
theorem of {r} (h : Ev (fun k => T k a_1) r) : F (a_1, ()) = some r := Ev.run (fun k => by kernel_rfl) h
theorem S : a3x prog ⟨34, sig, F⟩ := sound_k (res := [.tmp 2]) func34 (cok (cM ⟨Aa7.S, nM⟩))
end Ad2
namespace Ad1
noncomputable def sig : Sig := ⟨[pC], [oC]⟩
noncomputable def cfg : Cfg := cf (cx [⟨34, Ad2.sig, Ad2.F⟩])
noncomputable def fin := finK cfg.c sig [.cell 2 42]
noncomputable def F (d : LL × Unit) : OQ := anyK (a9q cfg fin (bd f16) (a5e sig.ps d 9))
variable (a_1 : LL)
noncomputable def T : OQ := (Ad2.F (a_1, ())).bind fun r2 => some ((r2.1.1, ()), ())
theorem eq : F (a_1, ()) = T a_1 := eq_any fun k => by kernel_rfl
theorem S : a3x prog ⟨16, sig, F⟩ := sound_k (res := [.cell 2 42]) func16 (cok (cM ⟨Ad2.S, nM⟩))
end Ad1
namespace Aa9
noncomputable def sig : Sig := ⟨[pL], [oB]⟩
noncomputable def cfg : Cfg := cl (cx []) fun id => match id with | 2 => ([0, 3], []) | _ => ([], [])
noncomputable def fin := finK cfg.c sig [.tmp 2]
noncomputable def F (d : LI × Unit) : OB := anyK (a9q cfg fin (bd f36) (a5e sig.ps d 20))
variable (k : Nat) (x2 : LI) (i3 : Int)
noncomputable def l2 : OB := Vm.runT cfg fin k [.inLoop (sub [1, 0, 1, 0, 0] (bd f36)), .inBlock 0, .code (sub [1, 1] (bd f36))] ⟨[vL x2, dD, dD, vI i3] ++ a8I 16, []⟩
theorem l2_eq : l2 (k + 1) x2 i3 = if (decide (i3 < (x2.length : Int))) = true then if 0 ≤ (IntKind.i64.wrap (i3 - 1)) ∧ (IntKind.i64.wrap (i3 - 1)) < (x2.length : Int) then if 0 ≤ i3 ∧ i3 < (x2.length : Int) then if (decide ((x2.getD (IntKind.i64.wrap (i3 - 1)).toNat 0) ≥ (x2.getD i3.toNat 0 : Int))) = true then some ((false, ()), ()) else l2 k x2 (IntKind.i64.wrap (i3 + 1)) else none else none else some ((true, ()), ()) := by kernel_rfl
variable (list_1 : LI)
noncomputable def T : OB := l2 k list_1 (1 : Int)
theorem of {r} (h : Ev (fun k => T k list_1) r) : F (list_1, ()) = some r := Ev.run (fun k => by kernel_rfl) h
theorem S : a3x prog ⟨36, sig, F⟩ := sound_k (res := [.tmp 2]) func36 (cok nM)
end Aa9
namespace Ae0
noncomputable def sig : Sig := ⟨[pL, .fnx ⟨[(false, tI)], [oB]⟩], [oI]⟩
noncomputable def cfg : Cfg := cl (cx []) fun id => match id with | 2 => ([0, 1, 7, 8], []) | _ => ([], [])
noncomputable def fin := finK cfg.c sig [.tmp 4]
noncomputable def F (d : LI × ((Int × Unit) → Option (Bool × Unit)) × Unit) : OI := anyK (a9q cfg fin (bd f71) (a5e sig.ps d 19))
variable (k : Nat) (x3 : LI) (f4 : (Int × Unit) → Option (Bool × Unit)) (i5 i6 : Int)
noncomputable def l2 : OI := Vm.runT cfg fin k [.inLoop (sub [1, 0, 1, 0, 0] (bd f71)), .inBlock 0, .code (sub [1, 1] (bd f71))] ⟨[vL x3, .fnx ⟨[(false, tI)], [(.val false, .bool, .deep)]⟩ f4, dD, dD, dD, dD, dD, vI i5, vI i6] ++ a8I 10, []⟩
theorem l2_eq : l2 (k + 1) x3 f4 i5 i6 = if (decide (i6 < i5)) = true then if 0 ≤ i6 ∧ i6 < (x3.length : Int) then (f4 ((x3.getD i6.toNat 0 : Int), ())).bind fun r7 => if r7.1 = true then some ((i6, ()), ()) else l2 k x3 f4 i5 (IntKind.i64.wrap (i6 + 1)) else none else some (((-1 : Int), ()), ()) := by kernel_rfl
variable (s_1 : LI) (f_2 : (Int × Unit) → Option (Bool × Unit))
noncomputable def T : OI := l2 k s_1 f_2 (s_1.length : Int) (0 : Int)
theorem of {r} (h : Ev (fun k => T k s_1 f_2) r) : F (s_1, f_2, ()) = some r := Ev.run (fun k => by kernel_rfl) h
theorem S : a3x prog ⟨71, sig, F⟩ := sound_k (res := [.tmp 4]) func71 (cok nM)
end Ae0
namespace Aa5
noncomputable def sig : Sig := ⟨[pL, .fnx ⟨[(false, tI)], [oB]⟩], [oB]⟩
noncomputable def cfg : Cfg := cf (cx [⟨71, Ae0.sig, Ae0.F⟩])
noncomputable def fin := finK cfg.c sig [.tmp 4]
noncomputable def F (d : LI × ((Int × Unit) → Option (Bool × Unit)) × Unit) : OB := anyK (a9q cfg fin (bd f39) (a5e sig.ps d 9))
variable (s_1 : LI) (f_2 : (Int × Unit) → Option (Bool × Unit))
noncomputable def T : OB := (Ae0.F (s_1, f_2, ())).bind fun r3 => some ((decide (r3.1.1 ≥ 0), ()), ())
theorem eq : F (s_1, f_2, ()) = T s_1 f_2 := eq_any fun k => by kernel_rfl
theorem S : a3x prog ⟨39, sig, F⟩ := sound_k (res := [.tmp 4]) func39 (cok (cM ⟨Ae0.S, nM⟩))
end Aa5
namespace Ac1
noncomputable def sig : Sig := ⟨[pI, pI, pI], [oB]⟩
noncomputable def cfg : Cfg := cf (cx [])
noncomputable def fin := finK cfg.c sig [.tmp 6]
noncomputable def F (d : Int × Int × Int × Unit) : OB := anyK (a9q cfg fin (bd f51) (a5e sig.ps d 15))
variable (n_1 low_2 high_3 : Int)
noncomputable def T : OB := if (decide (n_1 ≥ low_2)) = true then some ((decide (n_1 ≤ high_3), ()), ()) else some ((false, ()), ())
theorem eq : F (n_1, low_2, high_3, ()) = T n_1 low_2 high_3 := eq_any fun k => by kernel_rfl
theorem S : a3x prog ⟨51, sig, F⟩ := sound_k (res := [.tmp 6]) func51 (cok nM)
end Ac1
namespace Ag8
noncomputable def sig : Sig := ⟨[pI], [oB]⟩
noncomputable def cfg : Cfg := cf (cx [⟨51, Ac1.sig, Ac1.F⟩])
noncomputable def fin := finK cfg.c sig [.tmp 2]
noncomputable def F (d : Int × Unit) : OB := anyK (a9q cfg fin (bd f80) (a5e sig.ps d 5))
variable (v_1 : Int)
noncomputable def T : OB := (Ac1.F (v_1, (0 : Int), (9 : Int), ())).bind fun r2 => some ((r2.1.1, ()), ())
theorem eq : F (v_1, ()) = T v_1 := eq_any fun k => by kernel_rfl
theorem S : a3x prog ⟨80, sig, F⟩ := sound_k (res := [.tmp 2]) func80 (cok (cM ⟨Ac1.S, nM⟩))
end Ag8
namespace Ag5
noncomputable def sig : Sig := ⟨[pI], [oB]⟩
noncomputable def cfg : Cfg := cf (cx [⟨80, Ag8.sig, Ag8.F⟩])
noncomputable def fin := finK cfg.c sig [.tmp 2]
noncomputable def F (d : Int × Unit) : OB := anyK (a9q cfg fin (bd f79) (a5e sig.ps d 6))
variable (v_1 : Int)
noncomputable def T : OB := (Ag8.F (v_1, ())).bind fun r2 => some ((!r2.1.1, ()), ())
theorem eq : F (v_1, ()) = T v_1 := eq_any fun k => by kernel_rfl
theorem S : a3x prog ⟨79, sig, F⟩ := sound_k (res := [.tmp 2]) func79 (cok (cM ⟨Ag8.S, nM⟩))
noncomputable def cloG (y : Unit) (d : Int × Unit) : Option (Bool × Unit) := (F (a9c [] [(false, tI)] d y)).map (·.1)
noncomputable def clo : Clo := ⟨79, ⟨[(false, tI)], [(.val false, .bool, .deep)]⟩, [], cloG⟩
theorem cloS : a2b prog clo := sound_clo (s := ⟨[(false, tI)], [(.val false, .bool, .deep)]⟩) (caps := []) rfl S
end Ag5
namespace Af0
noncomputable def sig : Sig := ⟨[pL], [oB]⟩
noncomputable def cfg : Cfg := cf ⟨a2X tabl, [⟨36, Aa9.sig, Aa9.F⟩, ⟨39, Aa5.sig, Aa5.F⟩], [Ag5.clo], [], [], []⟩
noncomputable def fin := finK cfg.c sig [.tmp 2]
noncomputable def F (d : LI × Unit) : OB := anyK (a9q cfg fin (bd f63) (a5e sig.ps d 20))
variable (s_1 : LI)
noncomputable def T : OB := if (decide ((s_1.length : Int) ≥ 1)) = true then if (decide ((s_1.length : Int) ≤ 4)) = true then (Aa9.F (s_1, ())).bind fun r2 => if r2.1.1 = true then (Aa5.F (s_1, Ag5.cloG (()), ())).bind fun r3 => some ((!r3.1.1, ()), ()) else some ((false, ()), ()) else some ((false, ()), ()) else some ((false, ()), ())
theorem eq : F (s_1, ()) = T s_1 := eq_any fun k => by kernel_rfl
theorem S : a3x prog ⟨63, sig, F⟩ := sound_k (res := [.tmp 2]) func63 (⟨nM, mixed_ok, tab_ok tab_good, cM ⟨Aa9.S, cM ⟨Aa5.S, nM⟩⟩, cM ⟨Ag5.cloS, nM⟩, nM⟩)
end Af0
namespace Ac7
noncomputable def sig : Sig := ⟨[pL], [oI]⟩
noncomputable def cfg : Cfg := cl (cx []) fun id => match id with | 3 => ([3, 6, 7, 8], []) | _ => ([], [])
noncomputable def fin := finK cfg.c sig [.tmp 2]
noncomputable def F (d : LI × Unit) : OI := anyK (a9q cfg fin (bd f75) (a5e sig.ps d 18))
variable (k : Nat) (i2 : Int) (x3 : LI) (i4 i5 : Int)
noncomputable def l3 : OI := Vm.runT cfg fin k [.inLoop (sub [1, 1, 0, 1, 0, 0] (bd f75)), .inBlock 0, .code (sub [1, 1, 1] (bd f75))] ⟨[dD, dD, dD, vI i2, dD, dD, vL x3, vI i4, vI i5] ++ a8I 9, []⟩
theorem l3_eq : l3 (k + 1) i2 x3 i4 i5 = if (decide (i5 < i4)) = true then if 0 ≤ i5 ∧ i5 < (x3.length : Int) then if ((x3.getD i5.toNat 0 : Int) != i2) = true then some (((x3.getD i5.toNat 0 : Int), ()), ()) else l3 k i2 x3 i4 (IntKind.i64.wrap (i5 + 1)) else none else some ((i2, ()), ()) := by kernel_rfl
variable (vals_1 : LI)
noncomputable def T : OI := l3 k (0 : Int) vals_1 (vals_1.length : Int) (0 : Int)
theorem of {r} (h : Ev (fun k => T k vals_1) r) : F (vals_1, ()) = some r := Ev.run (fun k => by kernel_rfl) h
theorem S : a3x prog ⟨75, sig, F⟩ := sound_k (res := [.tmp 2]) func75 (cok nM)
end Ac7
namespace Ae7
noncomputable def sig : Sig := ⟨[pI], [oB]⟩
noncomputable def cfg : Cfg := cf (cx [])
noncomputable def fin := finK cfg.c sig [.tmp 2]
noncomputable def F (d : Int × Unit) : OB := anyK (a9q cfg fin (bd f91) (a5e sig.ps d 6))
variable (x_1 : Int)
noncomputable def T : OB := some ((x_1 != x_1, ()), ())
theorem eq : F (x_1, ()) = T x_1 := eq_any fun k => by kernel_rfl
theorem S : a3x prog ⟨91, sig, F⟩ := sound_k (res := [.tmp 2]) func91 (cok nM)
end Ae7
namespace Ae5
noncomputable def sig : Sig := ⟨[pI, pI], [oI]⟩
noncomputable def cfg : Cfg := cf (cx [⟨91, Ae7.sig, Ae7.F⟩])
noncomputable def fin := finK cfg.c sig [.tmp 4]
noncomputable def F (d : Int × Int × Unit) : OI := anyK (a9q cfg fin (bd f81) (a5e sig.ps d 20))
variable (x_1 y_2 : Int)
noncomputable def T : OI := (Ae7.F (x_1, ())).bind fun r3 => (Ae7.F (y_2, ())).bind fun r4 => if r3.1.1 = true then if r4.1.1 = true then some ((0, ()), ()) else some (((-1 : Int), ()), ()) else if r4.1.1 = true then some ((1, ()), ()) else if (decide (x_1 < y_2)) = true then some (((-1 : Int), ()), ()) else if (decide (x_1 > y_2)) = true then some ((1, ()), ()) else some ((0, ()), ())
theorem eq : F (x_1, y_2, ()) = T x_1 y_2 := eq_any fun k => by kernel_rfl
theorem S : a3x prog ⟨81, sig, F⟩ := sound_k (res := [.tmp 4]) func81 (cok (cM ⟨Ae7.S, nM⟩))
end Ae5
namespace Ae8
noncomputable def sig : Sig := ⟨[pI], [oB]⟩
noncomputable def cfg : Cfg := cf (cx [])
noncomputable def fin := finK cfg.c sig [.tmp 2]
noncomputable def F (d : Int × Unit) : OB := anyK (a9q cfg fin (bd f90) (a5e sig.ps d 6))
variable (x_1 : Int)
noncomputable def T : OB := some ((x_1 != x_1, ()), ())
theorem eq : F (x_1, ()) = T x_1 := eq_any fun k => by kernel_rfl
theorem S : a3x prog ⟨90, sig, F⟩ := sound_k (res := [.tmp 2]) func90 (cok nM)
end Ae8
namespace Ae6
noncomputable def sig : Sig := ⟨[pI, pI], [oI]⟩
noncomputable def cfg : Cfg := cf (cx [⟨90, Ae8.sig, Ae8.F⟩])
noncomputable def fin := finK cfg.c sig [.tmp 4]
noncomputable def F (d : Int × Int × Unit) : OI := anyK (a9q cfg fin (bd f76) (a5e sig.ps d 20))
variable (x_1 y_2 : Int)
noncomputable def T : OI := (Ae8.F (x_1, ())).bind fun r3 => (Ae8.F (y_2, ())).bind fun r4 => if r3.1.1 = true then if r4.1.1 = true then some ((0, ()), ()) else some (((-1 : Int), ()), ()) else if r4.1.1 = true then some ((1, ()), ()) else if (decide (x_1 < y_2)) = true then some (((-1 : Int), ()), ()) else if (decide (x_1 > y_2)) = true then some ((1, ()), ()) else some ((0, ()), ())
theorem eq : F (x_1, y_2, ()) = T x_1 y_2 := eq_any fun k => by kernel_rfl
theorem S : a3x prog ⟨76, sig, F⟩ := sound_k (res := [.tmp 4]) func76 (cok (cM ⟨Ae8.S, nM⟩))
end Ae6
namespace Ad3
noncomputable def sig : Sig := ⟨[pL, pL], [oI]⟩
noncomputable def cfg : Cfg := cl (cx [⟨76, Ae6.sig, Ae6.F⟩]) fun id => match id with | 2 => ([0, 1, 9, 10, 11], []) | _ => ([], [])
noncomputable def fin := finK cfg.c sig [.tmp 4]
noncomputable def F (d : LI × LI × Unit) : OI := anyK (a9q cfg fin (bd f82) (a5e sig.ps d 36))
variable (k : Nat) (x3 x4 x5 : LI) (i6 i7 : Int)
noncomputable def l2 : OI := Vm.runT cfg fin k [.inLoop (sub [1, 0, 1, 0, 0] (bd f82)), .inBlock 0, .code (sub [1, 1] (bd f82))] ⟨[vL x3, vL x4, dD, dD, dD, dD, dD, dD, dD, vL x5, vI i6, vI i7] ++ a8I 24, []⟩
theorem l2_eq : l2 (k + 1) x3 x4 x5 i6 i7 = if (decide (i7 < i6)) = true then if 0 ≤ i7 ∧ i7 < (x5.length : Int) then if (decide (i7 ≥ (x4.length : Int))) = true then some ((1, ()), ()) else if 0 ≤ i7 ∧ i7 < (x4.length : Int) then (Ae6.F ((x5.getD i7.toNat 0 : Int), (x4.getD i7.toNat 0 : Int), ())).bind fun r8 => if (r8.1.1 != 0) = true then some ((r8.1.1, ()), ()) else l2 k x3 x4 x5 i6 (IntKind.i64.wrap (i7 + 1)) else none else none else if (decide ((x3.length : Int) < (x4.length : Int))) = true then some (((-1 : Int), ()), ()) else some ((0, ()), ()) := by kernel_rfl
variable (s1_1 s2_2 : LI)
noncomputable def T : OI := l2 k s1_1 s2_2 s1_1 (s1_1.length : Int) (0 : Int)
theorem of {r} (h : Ev (fun k => T k s1_1 s2_2) r) : F (s1_1, s2_2, ()) = some r := Ev.run (fun k => by kernel_rfl) h
theorem S : a3x prog ⟨82, sig, F⟩ := sound_k (res := [.tmp 4]) func82 (cok (cM ⟨Ae6.S, nM⟩))
end Ad3
namespace Aa2
noncomputable def sig : Sig := ⟨[pL, pL], [oI]⟩
noncomputable def cfg : Cfg := cf (cx [⟨75, Ac7.sig, Ac7.F⟩, ⟨81, Ae5.sig, Ae5.F⟩, ⟨82, Ad3.sig, Ad3.F⟩])
noncomputable def fin := finK cfg.c sig [.tmp 4]
noncomputable def F (d : LI × LI × Unit) : OI := anyK (a9q cfg fin (bd f64) (a5e sig.ps d 15))
variable (a_1 b_2 : LI)
noncomputable def T : OI := (Ae5.F ((a_1.length : Int), (b_2.length : Int), ())).bind fun r3 => (Ad3.F (a_1, b_2, ())).bind fun r4 => (Ac7.F ([r3.1.1, r4.1.1], ())).bind fun r5 => some ((r5.1.1, ()), ())
theorem eq : F (a_1, b_2, ()) = T a_1 b_2 := eq_any fun k => by kernel_rfl
theorem S : a3x prog ⟨64, sig, F⟩ := sound_k (res := [.tmp 4]) func64 (cok (cM ⟨Ac7.S, cM ⟨Ae5.S, cM ⟨Ad3.S, nM⟩⟩⟩))
noncomputable def cloG (y : Unit) (d : LI × LI × Unit) : Option (Int × Unit) := (F (a9c [] [(false, tL), (false, tL)] d y)).map (·.1)
noncomputable def clo : Clo := ⟨64, ⟨[(false, tL), (false, tL)], [(.val false, tI, .deep)]⟩, [], cloG⟩
theorem cloS : a2b prog clo := sound_clo (s := ⟨[(false, tL), (false, tL)], [(.val false, tI, .deep)]⟩) (caps := []) rfl S
end Aa2
namespace Ad9
noncomputable def sig : Sig := ⟨[pQ, .fnx ⟨[(false, tL)], [oB]⟩], [oI]⟩
noncomputable def cfg : Cfg := cl (cx []) fun id => match id with | 2 => ([0, 1, 7, 8], []) | _ => ([], [])
noncomputable def fin := finK cfg.c sig [.tmp 4]
noncomputable def F (d : LL × ((LI × Unit) → Option (Bool × Unit)) × Unit) : OI := anyK (a9q cfg fin (bd f83) (a5e sig.ps d 19))
variable (k : Nat) (x3 : LL) (f4 : (LI × Unit) → Option (Bool × Unit)) (i5 i6 : Int)
noncomputable def l2 : OI := Vm.runT cfg fin k [.inLoop (sub [1, 0, 1, 0, 0] (bd f83)), .inBlock 0, .code (sub [1, 1] (bd f83))] ⟨[vQ x3, .fnx ⟨[(false, tL)], [(.val false, .bool, .deep)]⟩ f4, dD, dD, dD, dD, dD, vI i5, vI i6] ++ a8I 10, []⟩
theorem l2_eq : l2 (k + 1) x3 f4 i5 i6 = if (decide (i6 < i5)) = true then if 0 ≤ i6 ∧ i6 < (x3.length : Int) then (f4 (x3.getD i6.toNat ([] : LI), ())).bind fun r7 => if r7.1 = true then some ((i6, ()), ()) else l2 k x3 f4 i5 (IntKind.i64.wrap (i6 + 1)) else none else some (((-1 : Int), ()), ()) := by kernel_rfl
variable (s_1 : LL) (f_2 : (LI × Unit) → Option (Bool × Unit))
noncomputable def T : OI := l2 k s_1 f_2 (s_1.length : Int) (0 : Int)
theorem of {r} (h : Ev (fun k => T k s_1 f_2) r) : F (s_1, f_2, ()) = some r := Ev.run (fun k => by kernel_rfl) h
theorem S : a3x prog ⟨83, sig, F⟩ := sound_k (res := [.tmp 4]) func83 (cok nM)
end Ad9
namespace Ae4
noncomputable def sig : Sig := ⟨[pQ, .fnx ⟨[(false, tL)], [oB]⟩], [oB]⟩
noncomputable def cfg : Cfg := cf (cx [⟨83, Ad9.sig, Ad9.F⟩])
noncomputable def fin := finK cfg.c sig [.tmp 4]
noncomputable def F (d : LL × ((LI × Unit) → Option (Bool × Unit)) × Unit) : OB := anyK (a9q cfg fin (bd f65) (a5e sig.ps d 9))
variable (s_1 : LL) (f_2 : (LI × Unit) → Option (Bool × Unit))
noncomputable def T : OB := (Ad9.F (s_1, f_2, ())).bind fun r3 => some ((decide (r3.1.1 ≥ 0), ()), ())
theorem eq : F (s_1, f_2, ()) = T s_1 f_2 := eq_any fun k => by kernel_rfl
theorem S : a3x prog ⟨65, sig, F⟩ := sound_k (res := [.tmp 4]) func65 (cok (cM ⟨Ad9.S, nM⟩))
end Ae4
namespace Ab6
noncomputable def sig : Sig := ⟨[pQ], [oL]⟩
noncomputable def cfg : Cfg := cl (⟨a2X tabl, [], [], [], [(92, tI)], []⟩) fun id => match id with | 3 => ([0, 3, 9, 10, 11], []) | 11 => ([6, 25, 26, 27], [24]) | _ => ([], [])
noncomputable def fin := finK cfg.c sig [.tmp 2]
noncomputable def F (d : LL × Unit) : OL := anyK (a9q cfg fin (bd f84) (a5e sig.ps d 36))
variable (k : Nat) (x2 : LL) (i3 : Int) (x4 : LL) (i5 i6 : Int)
noncomputable def l3 : OL := Vm.runT cfg fin k [.inLoop (sub [1, 1, 0, 1, 0, 0] (bd f84)), .inBlock 0, .code (sub [1, 1, 1] (bd f84))] ⟨[vQ x2, dD, dD, vI i3, dD, dD, dD, dD, dD, vQ x4, vI i5, vI i6] ++ a8I 24, []⟩
variable (x7 : LL) (i8 i9 : Int) (x10 : LI)
noncomputable def l11 : OL := Vm.runT cfg fin k [.inLoop (sub [1, 1, 1, 1, 0, 1, 0, 0] (bd f84)), .inBlock 2, .code (sub [1, 1, 1, 1, 1] (bd f84))] ⟨[dD, dD, dD, dD, dD, dD, .view 24 (.root 0) 1 false, dD, dD, dD, dD, dD, dD, dD, dD, dD, dD, dD, dD, dD, dD, dD, dD, dD, dD, vQ x7, vI i8, vI i9] ++ a8I 8, [(24, ⟨false, [dL x10]⟩)]⟩
theorem l3_eq : l3 (k + 1) x2 i3 x4 i5 i6 = if (decide (i6 < i5)) = true then if 0 ≤ i6 ∧ i6 < (x4.length : Int) then if (decide ((IntKind.i64.wrap (i3 + ((x4.getD i6.toNat ([] : LI)).length : Int))) < 0)) = true then none else l3 k x2 (IntKind.i64.wrap (i3 + ((x4.getD i6.toNat ([] : LI)).length : Int))) x4 i5 (IntKind.i64.wrap (i6 + 1)) else none else if 0 ≤ i3 ∧ i3 ≤ (bigN : Int) then l11 k x2 (x2.length : Int) (0 : Int) ([] : LI) else none := by kernel_rfl
theorem l11_eq : l11 (k + 1) x7 i8 i9 x10 = if (decide (i9 < i8)) = true then if 0 ≤ i9 ∧ i9 < (x7.length : Int) then if x10.length + (x7.getD i9.toNat ([] : LI)).length ≤ bigA then l11 k x7 i8 (IntKind.i64.wrap (i9 + 1)) (x10 ++ (x7.getD i9.toNat ([] : LI))) else none else none else some ((x10, ()), ()) := by kernel_rfl
variable (slices_1 : LL)
noncomputable def T : OL := l3 k slices_1 (0 : Int) slices_1 (slices_1.length : Int) (0 : Int)
theorem of {r} (h : Ev (fun k => T k slices_1) r) : F (slices_1, ()) = some r := Ev.run (fun k => by kernel_rfl) h
theorem S : a3x prog ⟨84, sig, F⟩ := sound_k (res := [.tmp 2]) func84 (⟨nM, mixed_ok, tab_ok tab_good, nM, nM, cM ⟨slices_Grow_Lint64_int64.growOK, nM⟩⟩)
end Ab6
namespace Aa6
noncomputable def sig : Sig := ⟨[pL], [oQ]⟩
noncomputable def cfg : Cfg := cl (cx [⟨84, Ab6.sig, Ab6.F⟩]) fun id => match id with | 3 => ([0, 3, 6, 7], [12]) | _ => ([], [])
noncomputable def fin := finK cfg.c sig [.tmp 2]
noncomputable def F (d : LI × Unit) : OQ := anyK (a9q cfg fin (bd f66) (a5e sig.ps d 27))
variable (k : Nat) (x2 : LI) (i3 i4 : Int) (x5 : LL)
noncomputable def l3 : OQ := Vm.runT cfg fin k [.inLoop (sub [1, 1, 0, 1, 0, 0] (bd f66)), .inBlock 0, .code (sub [1, 1, 1] (bd f66))] ⟨[vL x2, dD, dD, .view 12 (.root 0) 1 false, dD, dD, vI i3, vI i4] ++ a8I 19, [(12, ⟨false, [dQ x5]⟩)]⟩
theorem l3_eq : l3 (k + 1) x2 i3 i4 x5 = if (decide (i4 < i3)) = true then if (decide ((x2.length : Int) > 1)) = true then if 0 ≤ (0 : Int) ∧ (0 : Int) ≤ i4 ∧ i4 ≤ (x2.length : Int) then if 0 ≤ (IntKind.i64.wrap (i4 + 1)) ∧ (IntKind.i64.wrap (i4 + 1)) ≤ (x2.length : Int) ∧ (x2.length : Int) ≤ (x2.length : Int) then (Ab6.F ([cutL x2 (0 : Int) i4, cutL x2 (IntKind.i64.wrap (i4 + 1)) (x2.length : Int)], ())).bind fun r6 => if x5.length + [r6.1.1].length ≤ bigA then l3 k x2 i3 (IntKind.i64.wrap (i4 + 1)) (x5 ++ [r6.1.1]) else none else none else none else l3 k x2 i3 (IntKind.i64.wrap (i4 + 1)) x5 else some ((x5, ()), ()) := by kernel_rfl
variable (s_1 : LI)
noncomputable def T : OQ := l3 k s_1 (s_1.length : Int) (0 : Int) ([])
theorem of {r} (h : Ev (fun k => T k s_1) r) : F (s_1, ()) = some r := Ev.run (fun k => by kernel_rfl) h
theorem S : a3x prog ⟨66, sig, F⟩ := sound_k (res := [.tmp 2]) func66 (cok (cM ⟨Ab6.S, nM⟩))
end Aa6
namespace Af5
noncomputable def sig : Sig := ⟨[pQ, pL, .fnx ⟨[(false, tL), (false, tL)], [oI]⟩], [oI, oB]⟩
noncomputable def cfg : Cfg := cl (cx []) fun id => match id with | 3 => ([0, 1, 2, 8, 9, 10], []) | _ => ([], [])
noncomputable def fin := finK cfg.c sig [.tmp 6, .tmp 7]
noncomputable def F (d : LL × LI × ((LI × LI × Unit) → Option (Int × Unit)) × Unit) : Option ((Int × Bool × Unit) × (Unit)) := anyK (a9q cfg fin (bd f85) (a5e sig.ps d 49))
variable (k : Nat) (x4 : LL) (x5 : LI) (f6 : (LI × LI × Unit) → Option (Int × Unit)) (i7 i8 i9 : Int)
noncomputable def l3 : Option ((Int × Bool × Unit) × (Unit)) := Vm.runT cfg fin k [.inLoop (sub [1, 1, 1, 0, 0, 0] (bd f85)), .inBlock 0, .code (sub [1, 1, 1, 1] (bd f85))] ⟨[vQ x4, vL x5, .fnx ⟨[(false, tL), (false, tL)], [(.val false, tI, .deep)]⟩ f6, dD, dD, dD, dD, dD, vI i7, vI i8, vI i9] ++ a8I 38, []⟩
theorem l3_eq : l3 (k + 1) x4 x5 f6 i7 i8 i9 = if (decide (i8 < i9)) = true then if (1 : Int) < 0 then none else if 0 ≤ (IntKind.i64.wrap ((IntKind.u64.wrap (IntKind.i64.wrap (i8 + i9))).fdiv (2 ^ (min (1 : Int).toNat IntKind.u64.bits)))) ∧ (IntKind.i64.wrap ((IntKind.u64.wrap (IntKind.i64.wrap (i8 + i9))).fdiv (2 ^ (min (1 : Int).toNat IntKind.u64.bits)))) < (x4.length : Int) then (f6 (x4.getD (IntKind.i64.wrap ((IntKind.u64.wrap (IntKind.i64.wrap (i8 + i9))).fdiv (2 ^ (min (1 : Int).toNat IntKind.u64.bits)))).toNat ([] : LI), x5, ())).bind fun r10 => if (decide (r10.1 < 0)) = true then l3 k x4 x5 f6 i7 (IntKind.i64.wrap ((IntKind.i64.wrap ((IntKind.u64.wrap (IntKind.i64.wrap (i8 + i9))).fdiv (2 ^ (min (1 : Int).toNat IntKind.u64.bits)))) + 1)) i9 else l3 k x4 x5 f6 i7 i8 (IntKind.i64.wrap ((IntKind.u64.wrap (IntKind.i64.wrap (i8 + i9))).fdiv (2 ^ (min (1 : Int).toNat IntKind.u64.bits)))) else none else if (decide (i8 < i7)) = true then if 0 ≤ i8 ∧ i8 < (x4.length : Int) then (f6 (x4.getD i8.toNat ([] : LI), x5, ())).bind fun r11 => some ((i8, (r11.1 == (0 : Int), ())), ()) else none else some ((i8, (false, ())), ()) := by kernel_rfl
variable (x_1 : LL) (target_2 : LI) (f_3 : (LI × LI × Unit) → Option (Int × Unit))
noncomputable def T : Option ((Int × Bool × Unit) × (Unit)) := l3 k x_1 target_2 f_3 (x_1.length : Int) (0 : Int) (x_1.length : Int)
theorem of {r} (h : Ev (fun k => T k x_1 target_2 f_3) r) : F (x_1, target_2, f_3, ()) = some r := Ev.run (fun k => by kernel_rfl) h
theorem S : a3x prog ⟨85, sig, F⟩ := sound_k (res := [.tmp 6, .tmp 7]) func85 (cok nM)
end Af5
namespace Af2
noncomputable def sig : Sig := ⟨[pC, pL], [oI]⟩
noncomputable def cfg : Cfg := cf ⟨a2X tabl, [⟨85, Af5.sig, Af5.F⟩], [Aa2.clo], [], [], []⟩
noncomputable def fin := finK cfg.c sig [.tmp 4]
noncomputable def F (d : LL × LI × Unit) : OI := anyK (a9q cfg fin (bd f68) (a5e sig.ps d 17))
variable (c_1 : LL) (s_2 : LI)
noncomputable def T : OI := (Af5.F (c_1, s_2, Aa2.cloG (()), ())).bind fun r3 => if (!r3.1.2.1) = true then some (((-1 : Int), ()), ()) else some ((r3.1.1, ()), ())
theorem eq : F (c_1, s_2, ()) = T c_1 s_2 := eq_any fun k => by kernel_rfl
theorem S : a3x prog ⟨68, sig, F⟩ := sound_k (res := [.tmp 4]) func68 (⟨nM, mixed_ok, tab_ok tab_good, cM ⟨Af5.S, nM⟩, cM ⟨Aa2.cloS, nM⟩, nM⟩)
end Af2
namespace Ae9
noncomputable def sig : Sig := ⟨[pL, qC, .rptr tI], [oB]⟩
noncomputable def cfg : Cfg := cf (cx [⟨68, Af2.sig, Af2.F⟩])
noncomputable def fin := finK cfg.c sig [.tmp 4]
noncomputable def F (d : LI × LL × Int × Unit) : OB := anyK (a9q cfg fin (bd f67) (a5e sig.ps d 13))
variable (f_1 : LI) (a_2 : LL) (a_3 : Int)
noncomputable def T : OB := if 0 ≤ (0 : Int) ∧ (0 : Int) ≤ a_3 ∧ a_3 ≤ (a_2.length : Int) then (Af2.F (cutL a_2 (0 : Int) a_3, f_1, ())).bind fun r4 => some ((decide (r4.1.1 < 0), ()), ()) else none
theorem eq : F (f_1, a_2, a_3, ()) = T f_1 a_2 a_3 := eq_any fun k => by kernel_rfl
theorem S : a3x prog ⟨67, sig, F⟩ := sound_k (res := [.tmp 4]) func67 (cok (cM ⟨Af2.S, nM⟩))
noncomputable def cloG (y : LL × Int × Unit) (d : LI × Unit) : Option (Bool × Unit) := (F (a9c [.rptr tQ, .rptr tI] [(false, tL)] d y)).map (·.1)
noncomputable def clo : Clo := ⟨67, ⟨[(false, tL)], [(.val false, .bool, .deep)]⟩, [.rptr tQ, .rptr tI], cloG⟩
theorem cloS : a2b prog clo := sound_clo (s := ⟨[(false, tL)], [(.val false, .bool, .deep)]⟩) (caps := [.rptr tQ, .rptr tI]) rfl S
end Ae9
namespace Ac0
noncomputable def sig : Sig := ⟨[pC], [oB]⟩
noncomputable def cfg : Cfg := cl (⟨a2X tabl, [⟨63, Af0.sig, Af0.F⟩, ⟨64, Aa2.sig, Aa2.F⟩, ⟨65, Ae4.sig, Ae4.F⟩, ⟨66, Aa6.sig, Aa6.F⟩], [Ae9.clo], [], [], []⟩) fun id => match id with | 2 => ([1, 6, 7, 8], [4]) | _ => ([], [])
noncomputable def fin := finK cfg.c sig [.tmp 2]
noncomputable def F (d : LL × Unit) : OB := anyK (a9q cfg fin (bd f35) (a5e sig.ps d 40))
variable (k : Nat) (x2 : LL) (i3 i4 : Int) (x5 : LL)
noncomputable def l2 : OB := Vm.runT cfg fin k [.inLoop (sub [1, 0, 1, 0, 0] (bd f35)), .inBlock 0, .code (sub [1, 1] (bd f35))] ⟨[dD, .ref 4 (.root 0), dD, dD, dD, dD, vQ x2, vI i3, vI i4] ++ a8I 31, [(4, ⟨true, [cQ x5]⟩)]⟩
theorem l2_eq : l2 (k + 1) x2 i3 i4 x5 = if (decide (i4 < i3)) = true then if 0 ≤ i4 ∧ i4 < (x2.length : Int) then (Af0.F (x2.getD i4.toNat ([] : LI), ())).bind fun r6 => if (!r6.1.1) = true then some ((false, ()), ()) else if (decide (i4 > 0)) = true then if 0 ≤ (IntKind.i64.wrap (i4 - 1)) ∧ (IntKind.i64.wrap (i4 - 1)) < (x5.length : Int) then (Aa2.F (x5.getD (IntKind.i64.wrap (i4 - 1)).toNat ([] : LI), x2.getD i4.toNat ([] : LI), ())).bind fun r7 => if (decide (r7.1.1 ≥ 0)) = true then some ((false, ()), ()) else (Aa6.F (x2.getD i4.toNat ([] : LI), ())).bind fun r8 => (Ae4.F (r8.1.1, Ae9.cloG (x5, i4, ()), ())).bind fun r9 => if r9.1.1 = true then some ((false, ()), ()) else l2 k x2 i3 (IntKind.i64.wrap (i4 + 1)) x5 else none else (Aa6.F (x2.getD i4.toNat ([] : LI), ())).bind fun r10 => (Ae4.F (r10.1.1, Ae9.cloG (x5, i4, ()), ())).bind fun r11 => if r11.1.1 = true then some ((false, ()), ()) else l2 k x2 i3 (IntKind.i64.wrap (i4 + 1)) x5 else none else some ((decide ((x5.length : Int) ≤ 48), ()), ()) := by kernel_rfl
variable (c_1 : LL)
noncomputable def T : OB := l2 k c_1 (c_1.length : Int) (0 : Int) c_1
theorem of {r} (h : Ev (fun k => T k c_1) r) : F (c_1, ()) = some r := Ev.run (fun k => by kernel_rfl) h
theorem S : a3x prog ⟨35, sig, F⟩ := sound_k (res := [.tmp 2]) func35 (⟨nM, mixed_ok, tab_ok tab_good, cM ⟨Af0.S, cM ⟨Aa2.S, cM ⟨Ae4.S, cM ⟨Aa6.S, nM⟩⟩⟩⟩, cM ⟨Ae9.cloS, nM⟩, nM⟩)
end Ac0
namespace Ag7
noncomputable def sig : Sig := ⟨[pI, pI], [oB]⟩
noncomputable def cfg : Cfg := cf (cx [⟨51, Ac1.sig, Ac1.F⟩])
noncomputable def fin := finK cfg.c sig [.tmp 4]
noncomputable def F (d : Int × Int × Unit) : OB := anyK (a9q cfg fin (bd f70) (a5e sig.ps d 9))
variable (a_1 p_2 : Int)
noncomputable def T : OB := (Ac1.F (a_1, (0 : Int), IntKind.i64.wrap (p_2 - (1 : Int)), ())).bind fun r3 => some ((r3.1.1, ()), ())
theorem eq : F (a_1, p_2, ()) = T a_1 p_2 := eq_any fun k => by kernel_rfl
theorem S : a3x prog ⟨70, sig, F⟩ := sound_k (res := [.tmp 4]) func70 (cok (cM ⟨Ac1.S, nM⟩))
end Ag7
namespace Ag6
noncomputable def sig : Sig := ⟨[pI, .rptr tI], [oB]⟩
noncomputable def cfg : Cfg := cf (cx [⟨70, Ag7.sig, Ag7.F⟩])
noncomputable def fin := finK cfg.c sig [.tmp 3]
noncomputable def F (d : Int × Int × Unit) : OB := anyK (a9q cfg fin (bd f69) (a5e sig.ps d 8))
variable (a_1 a_2 : Int)
noncomputable def T : OB := (Ag7.F (a_1, a_2, ())).bind fun r3 => some ((!r3.1.1, ()), ())
theorem eq : F (a_1, a_2, ()) = T a_1 a_2 := eq_any fun k => by kernel_rfl
theorem S : a3x prog ⟨69, sig, F⟩ := sound_k (res := [.tmp 3]) func69 (cok (cM ⟨Ag7.S, nM⟩))
noncomputable def cloG (y d : Int × Unit) : Option (Bool × Unit) := (F (a9c [.rptr tI] [(false, tI)] d y)).map (·.1)
noncomputable def clo : Clo := ⟨69, ⟨[(false, tI)], [(.val false, .bool, .deep)]⟩, [.rptr tI], cloG⟩
theorem cloS : a2b prog clo := sound_clo (s := ⟨[(false, tI)], [(.val false, .bool, .deep)]⟩) (caps := [.rptr tI]) rfl S
end Ag6
namespace Af1
noncomputable def sig : Sig := ⟨[pL, pI], [oB]⟩
noncomputable def cfg : Cfg := cf ⟨a2X tabl, [⟨39, Aa5.sig, Aa5.F⟩], [Ag6.clo], [], [], []⟩
noncomputable def fin := finK cfg.c sig [.tmp 4]
noncomputable def F (d : LI × Int × Unit) : OB := anyK (a9q cfg fin (bd f37) (a5e sig.ps d 9))
variable (list_1 : LI) (p_2 : Int)
noncomputable def T : OB := (Aa5.F (list_1, Ag6.cloG (p_2, ()), ())).bind fun r3 => some ((!r3.1.1, ()), ())
theorem eq : F (list_1, p_2, ()) = T list_1 p_2 := eq_any fun k => by kernel_rfl
theorem S : a3x prog ⟨37, sig, F⟩ := sound_k (res := [.tmp 4]) func37 (⟨nM, mixed_ok, tab_ok tab_good, cM ⟨Aa5.S, nM⟩, cM ⟨Ag6.cloS, nM⟩, nM⟩)
end Af1
namespace Af6
noncomputable def sig : Sig := ⟨[pL], [oL]⟩
noncomputable def cfg : Cfg := cf (cx [])
noncomputable def fin := finK cfg.c sig [.tmp 2]
noncomputable def F (d : LI × Unit) : OL := anyK (a9q cfg fin (bd f86) (a5e sig.ps d 8))
variable (s_1 : LI)
noncomputable def T : OL := if 0 < s_1.length then if ([] : LI).length + s_1.length ≤ bigA then some ((([] : LI) ++ s_1, ()), ()) else none else both ( some (([], ()), ()) ) ( if ([] : LI).length + s_1.length ≤ bigA then some ((([] : LI) ++ s_1, ()), ()) else none )
theorem eq : F (s_1, ()) = T s_1 := eq_any fun k => by kernel_rfl
theorem S : a3x prog ⟨86, sig, F⟩ := sound_k (res := [.tmp 2]) func86 (cok nM)
end Af6
namespace Ab5
noncomputable def sig : Sig := ⟨[pQ], [oQ]⟩
noncomputable def cfg : Cfg := cl (cx [⟨86, Af6.sig, Af6.F⟩]) fun id => match id with | 3 => ([3, 6, 7, 8], [12]) | _ => ([], [])
noncomputable def fin := finK cfg.c sig [.tmp 2]
noncomputable def F (d : LL × Unit) : OQ := anyK (a9q cfg fin (bd f73) (a5e sig.ps d 19))
variable (k : Nat) (x2 : LL) (i3 i4 : Int) (x5 : LL)
noncomputable def l3 : OQ := Vm.runT cfg fin k [.inLoop (sub [1, 1, 0, 1, 0, 0] (bd f73)), .inBlock 0, .code (sub [1, 1, 1] (bd f73))] ⟨[dD, dD, dD, .view 12 (.root 0) 1 false, dD, dD, vQ x2, vI i3, vI i4] ++ a8I 10, [(12, ⟨false, [dQ x5]⟩)]⟩
theorem l3_eq : l3 (k + 1) x2 i3 i4 x5 = if (decide (i4 < i3)) = true then if 0 ≤ i4 ∧ i4 < (x2.length : Int) then (Af6.F (x2.getD i4.toNat ([] : LI), ())).bind fun r6 => if x5.length + [r6.1.1].length ≤ bigA then l3 k x2 i3 (IntKind.i64.wrap (i4 + 1)) (x5 ++ [r6.1.1]) else none else none else some ((x5, ()), ()) := by kernel_rfl
variable (lists_1 : LL)
noncomputable def T : OQ := l3 k lists_1 (lists_1.length : Int) (0 : Int) ([])
theorem of {r} (h : Ev (fun k => T k lists_1) r) : F (lists_1, ()) = some r := Ev.run (fun k => by kernel_rfl) h
theorem S : a3x prog ⟨73, sig, F⟩ := sound_k (res := [.tmp 2]) func73 (cok (cM ⟨Af6.S, nM⟩))
end Ab5
namespace Ag2
noncomputable def sig : Sig := sortS
noncomputable def F (d : LL × ((LI × LI × Unit) → Option (Int × Unit)) × Unit) : Option ((Unit) × (LL × Unit)) := sortF ordS d
def ren : Go.Shelf.Ren := ⟨fun | 6 => 87 | 14 => 93 | 15 => 94 | 20 => 95 | 21 => 96 | 22 => 97 | 23 => 98 | 24 => 99 | 25 => 100 | 26 => 101 | 27 => 102 | 28 => 103 | 29 => 104 | 46 => 105 | 47 => 106 | 48 => 107 | 49 => 108 | 50 => 109 | 57 => 110 | n => n, fun | 0 => 0 | 3 => 3 | 4 => 4 | 5 => 5 | 9 => 9 | 22 => 38 | 24 => 26 | 25 => 85 | 39 => 104 | 45 => 108 | 46 => 109 | 50 => 98 | 53 => 115 | 55 => 117 | 66 => 118 | 70 => 122 | 76 => 124 | 77 => 125 | n => n, fun n => n⟩
theorem lays : Go.Proofs.SlLaysF.n6 prog ren where
  mixed := by kernel_rfl
  f6 := ⟨"slices.SortFunc[[][]int64,[]int64]", by decide, func87.trans (congrArg some (by kernel_rfl))⟩
  f14 := ⟨"slices.pdqsortCmpFunc[[]int64]", by decide, func93.trans (congrArg some (by kernel_rfl))⟩
  f15 := func94.trans (congrArg some (by kernel_rfl))
  f20 := ⟨"slices.insertionSortCmpFunc[[]int64]", by decide, func95.trans (congrArg some (by kernel_rfl))⟩
  f21 := ⟨"slices.heapSortCmpFunc[[]int64]", by decide, func96.trans (congrArg some (by kernel_rfl))⟩
  f22 := ⟨"slices.breakPatternsCmpFunc[[]int64]", by decide, func97.trans (congrArg some (by kernel_rfl))⟩
  f23 := ⟨"slices.choosePivotCmpFunc[[]int64]", by decide, func98.trans (congrArg some (by kernel_rfl))⟩
  f24 := ⟨"slices.reverseRangeCmpFunc[[]int64]", by decide, func99.trans (congrArg some (by kernel_rfl))⟩
  f25 := ⟨"slices.partialInsertionSortCmpFunc[[]int64]", by decide, func100.trans (congrArg some (by kernel_rfl))⟩
  f26 := ⟨"slices.partitionEqualCmpFunc[[]int64]", by decide, func101.trans (congrArg some (by kernel_rfl))⟩
  f27 := ⟨"slices.partitionCmpFunc[[]int64]", by decide, func102.trans (congrArg some (by kernel_rfl))⟩
  f28 := func103.trans (congrArg some (by kernel_rfl))
  f29 := func104.trans (congrArg some (by kernel_rfl))
  f46 := ⟨"slices.siftDownCmpFunc[[]int64]", by decide, func105.trans (congrArg some (by kernel_rfl))⟩
  f47 := func106.trans (congrArg some (by kernel_rfl))
  f48 := func107.trans (congrArg some (by kernel_rfl))
  f49 := ⟨"slices.medianAdjacentCmpFunc[[]int64]", by decide, func108.trans (congrArg some (by kernel_rfl))⟩
  f50 := ⟨"slices.medianCmpFunc[[]int64]", by decide, func109.trans (congrArg some (by kernel_rfl))⟩
  f57 := ⟨"slices.order2CmpFunc[[]int64]", by decide, func110.trans (congrArg some (by kernel_rfl))⟩
  t0 := underlying0
  a0 := isAgg0
  z0 := sizeOf0
  v0 := zeroValue0
  t3 := underlying3
  a3 := isAgg3
  z3 := sizeOf3
  v3 := zeroValue3
  t4 := underlying4
  a4 := isAgg4
  z4 := sizeOf4
  v4 := zeroValue4
  t5 := underlying5
  a5 := isAgg5
  z5 := sizeOf5
  v5 := zeroValue5
  t9 := underlying9
  a9 := isAgg9
  z9 := sizeOf9
  v9 := zeroValue9
  t22 := underlying38
  a22 := isAgg38
  z22 := sizeOf38
  v22 := zeroValue38
  a24 := isAgg26
  z24 := sizeOf26
  t25 := underlying85
  a25 := isAgg85
  z25 := sizeOf85
  v25 := zeroValue85
  t39 := underlying104
  a39 := isAgg104
  z39 := sizeOf104
  v39 := zeroValue104
  t45 := underlying108
  a45 := isAgg108
  z45 := sizeOf108
  v45 := zeroValue108
  t46 := underlying109
  a46 := isAgg109
  z46 := sizeOf109
  v46 := zeroValue109
  t50 := underlying98
  a50 := isAgg98
  z50 := sizeOf98
  v50 := zeroValue98
  t53 := underlying115
  a53 := isAgg115
  z53 := sizeOf115
  v53 := zeroValue115
  t55 := underlying117
  a55 := isAgg117
  z55 := sizeOf117
  v55 := zeroValue117
  t66 := underlying118
  a66 := isAgg118
  z66 := sizeOf118
  v66 := zeroValue118
  t70 := underlying122
  a70 := isAgg122
  z70 := sizeOf122
  v70 := zeroValue122
  t76 := underlying124
  a76 := isAgg124
  z76 := sizeOf124
  v76 := zeroValue124
  t77 := underlying125
  a77 := isAgg125
  z77 := sizeOf125
  v77 := zeroValue125
theorem S : a3x prog ⟨87, sig, F⟩ := sort_sound lays ordS_swo ordS_tot
end Ag2
namespace Ag0
noncomputable def sig : Sig := compS
noncomputable def F (d : LL × ((LI × LI × Unit) → Option (Bool × Unit)) × Unit) : OQ := compF d
theorem emp (p : Option Addr) (cap : Nat) (fv : Value) (w : World) : Calls prog 88 #[.slice p 0 cap, fv] w fun e w' => e = .returned (.slice p 0 cap) ∧ w' = w := by
  go_enter func88, ntmps88
  go_wp2
  go_ret
  exact ⟨rfl, rfl⟩
open Go.Proofs Go.Shelf Go.RowKit Go.Lib Go.Sort in
set_option maxHeartbeats 16000000 in
set_option maxRecDepth 1000000 in
theorem walk {α : Type} [Inhabited α] (enc : α → Value) (hO : OneCell enc) (eq : α → α → Bool) (zr : α) (hz : enc zr = .slice none 0 0) (g : Nat) (cb : Array Value) (eg : ∀ args w, (callFunc g args).run prog w = .ok (.enter g args) w)
    (blk off cap : Nat) (d : Array α) (w : World) (hcmp : a9O prog g cb enc eq blk off d.size w) (hH : Holds enc w blk off d) (hblk : blk < w.heap.size) (hsz : d.size < 4611686018427387904) (hcap : d.size ≤ cap) (kp : Nat → Bool) (hkp0 : kp 0 = true) (hkp : ∀ j, 0 < j → kp j = !(eq d[j]! d[j - 1]!)) :
    Calls prog 88 #[.slice (some ⟨blk, off, none⟩) d.size cap, .func (.func g) #[] cb] w fun e w' => e = .returned (.slice (some ⟨blk, off, none⟩) (keptUpTo kp d d.size).length cap) ∧ SW enc w blk off (keptUpTo kp d d.size ++ List.replicate (d.size - (keptUpTo kp d d.size).length) zr).toArray w' := by
  have mixed : prog.follows .mixedOrders = true := mixed_ok
  have hcl0 := hO.cells
  simp only [Value.cells] at hcl0
  have hst := hO.store prog
  have R : Row1 enc w blk off d := ⟨hO, hH, hblk⟩
  have HC : Aside (a9O prog g cb enc eq blk off d.size w) := hcmp
  have S0 : Aside (SW enc w blk off d w) := SW.start hH
  have same : ∀ W, SW enc w blk off d W → (∀ j, j < d.size → kp j = true) → (keptUpTo kp d d.size).length = d.size ∧ SW enc w blk off (keptUpTo kp d d.size ++ List.replicate (d.size - (keptUpTo kp d d.size).length) zr).toArray W := by
    intro W hW hall
    have e : keptUpTo kp d d.size = d.toList := by rw [keptUpTo_all kp d _ hall, range_map_get]
    rw [e]
    refine ⟨by simp, ?_⟩
    simpa using hW
  have HS : Aside _ := same
  have K0 : Aside (kp 0 = true) := hkp0
  have K1 : Aside (∀ j, 0 < j → kp j = !(eq d[j]! d[j - 1]!)) := hkp
  clear hcmp same hkp0 hkp hH
  by_cases h2 : d.size < 2
  · go_enter func88, ntmps88
    go_wp2
    go_ret
    obtain ⟨e1, e2⟩ := HS.out _ S0.out (fun j hj => by
      have : j = 0 := by omega
      rw [this]; exact K0.out)
    exact ⟨by rw [e1]; rfl, e2⟩
  · go_enter func88, ntmps88
    go_wp2
    go_loopg [5] d.size (fun g1 s5 wr => ∃ k : Nat, s5 = .int .i64 k ∧ 1 ≤ k ∧ k ≤ d.size ∧ d.size - k ≤ g1 ∧ Aside (SW enc w blk off d wr) ∧ Hid (∀ j, j < k → kp j = true))
    case atStart => exact ⟨1, rfl, Nat.le_refl _, by omega, by omega, S0, fun j hj => by
      have : j = 0 := by omega
      rw [this]; exact K0.out⟩
    case round =>
      clear S0
      obtain ⟨k, rfl, hk1, hk, hg1, S1, HA⟩ := hrel
      by_cases hlt : k < d.size
      · have hltz : (k : Int) < (d.size : Int) := by omega
        obtain ⟨kq, hkq⟩ : ∃ q, q + 1 = k := ⟨k - 1, by omega⟩
        have zk : (k : Int) = (kq : Int) + 1 := by omega
        obtain ⟨iN, hiN⟩ : ∃ q, q = k := ⟨_, rfl⟩
        obtain ⟨jN, hjN⟩ : ∃ q, q = k - 1 := ⟨_, rfl⟩
        have ea : ((kq : Int) + 1).toNat = iN := by omega
        have pa : (0 : Int) ≤ (kq : Int) + 1 := by omega
        have ba : (kq : Int) + 1 < (d.size : Int) := by omega
        have ra : IntKind.i64.wrap ((kq : Int) + 1) = (kq : Int) + 1 := by rw [IntKind.wrap_i64]; omega
        have ec : ((kq : Int)).toNat = jN := by omega
        have pc : (0 : Int) ≤ (kq : Int) := by omega
        have bc : (kq : Int) < (d.size : Int) := by omega
        have rc : IntKind.i64.wrap ((kq : Int)) = (kq : Int) := by rw [IntKind.wrap_i64]; omega
        obtain ⟨x, hx⟩ : ∃ x, x = d[k]! := ⟨_, rfl⟩
        obtain ⟨y, hy⟩ : ∃ x, x = d[k - 1]! := ⟨_, rfl⟩
        have la := S1.out.cl R rfl k (by omega)
        have lb := S1.out.cl R rfl (k - 1) (by omega)
        rw [← hx, ← hiN] at la
        rw [← hy, ← hjN] at lb
        have hc := sw_eql S1.out HC.out rfl x y
        have KK : Aside (kp k = !(eq x y)) := by rw [hx, hy]; exact K1.out k (by omega)
        clear hx hy hiN hjN
        cases hv : eq x y with
        | true =>
          rw [hv] at hc KK
          go_wp2_with fail
          go_quiet_grown (first | (go_at_fn g; refine Calls.grown_of (hc _ _)))
          have S2 : Aside (SW enc w blk off d (grow (wr.drewN nq) osq)) := S1.out.grown nq osq
          clear la lb hc S1
          generalize grow (wr.drewN nq) osq = w2 at S2 ⊢
          clear nq osq
          clear ea ec pa ba ra pc bc rc
          have hzk : (kq : Int) + 1 = (k : Int) := by omega
          clear zk hkq
          simp only [hzk]
          clear hzk
          go_wp2
          go_loopg [5, 7] d.size (fun g2 s5 s7 wr2 => ∃ (kk k2 : Nat) (dk : Array α), s5 = .int .i64 kk ∧ s7 = .int .i64 k2 ∧ 1 ≤ k2 ∧ k + k2 ≤ d.size ∧ d.size - (k + k2) ≤ g2 ∧ Aside (SW enc w blk off dk wr2) ∧ Aside (KeptInv kp d (k + k2) kk dk))
          case atStart => exact ⟨k, 1, d, rfl, rfl, Nat.le_refl _, by omega, by omega, S2, KeptInv.start HA.out (by rw [KK.out]; rfl)⟩
          case round =>
            clear S2 KK HA
            obtain ⟨kk, k2, dk, rfl, rfl, h1, hle, hg2, S3, I2⟩ := hrel
            have hkk := I2.out.lt
            have hds := I2.out.size
            by_cases hlt2 : k + k2 < d.size
            · obtain ⟨kq, hkq⟩ : ∃ q, q + 1 = k2 := ⟨k2 - 1, by omega⟩
              have zk : (k2 : Int) = (kq : Int) + 1 := by omega
              obtain ⟨iN, hiN⟩ : ∃ q, q = k2 := ⟨_, rfl⟩
              obtain ⟨jN, hjN⟩ : ∃ q, q = k2 - 1 := ⟨_, rfl⟩
              have ea : ((kq : Int) + 1).toNat = iN := by omega
              have pa : (0 : Int) ≤ (kq : Int) + 1 := by omega
              have ba : (kq : Int) + 1 < ((d.size - k : Nat) : Int) := by omega
              have ra : IntKind.i64.wrap ((kq : Int) + 1) = (kq : Int) + 1 := by rw [IntKind.wrap_i64]; omega
              have ec : ((kq : Int)).toNat = jN := by omega
              have pc : (0 : Int) ≤ (kq : Int) := by omega
              have bc : (kq : Int) < ((d.size - k : Nat) : Int) := by omega
              have rc : IntKind.i64.wrap ((kq : Int)) = (kq : Int) := by rw [IntKind.wrap_i64]; omega
              obtain ⟨x, hx⟩ : ∃ x, x = d[k + k2]! := ⟨_, rfl⟩
              obtain ⟨y, hy⟩ : ∃ x, x = d[k + k2 - 1]! := ⟨_, rfl⟩
              have la := S3.out.cl R hds (k + k2) (by omega)
              have lb := S3.out.cl R hds (k + k2 - 1) (by omega)
              rw [I2.out.high (k + k2) (by omega), ← hx, show off + (k + k2) = off + k + iN by omega] at la
              rw [I2.out.high (k + k2 - 1) (by omega), ← hy, show off + (k + k2 - 1) = off + k + jN by omega] at lb
              have hc := sw_eql S3.out HC.out hds x y
              have KK : Aside (kp (k + k2) = !(eq x y)) := by rw [hx, hy]; exact K1.out (k + k2) (by omega)
              have XX : Aside (x = d[k + k2]!) := hx
              clear hx hy hiN hjN
              cases hv : eq x y with
              | true =>
                rw [hv] at hc KK
                go_wp2_with fail
                go_quiet_grown (first | (go_at_fn g; refine Calls.grown_of (hc _ _)))
                have S2 : Aside (SW enc w blk off dk (grow (wr.drewN nq) osq)) := S3.out.grown nq osq
                clear la lb hc S3
                generalize grow (wr.drewN nq) osq = w2 at S2 ⊢
                clear nq osq
                clear ea ec
                go_wp2
                go_roundg (d.size - (k + (k2 + 1)))
                case measure => omega
                case rel => exact ⟨kk, k2 + 1, dk, rfl, by go_num, by omega, by omega, Nat.le_refl _, S2, I2.out.skip (by rw [KK.out]; rfl)⟩
              | false =>
                rw [hv] at hc KK
                go_wp2_with fail
                go_quiet_grown (first | (go_at_fn g; refine Calls.grown_of (hc _ _)))
                have S2 : Aside (SW enc w blk off dk (grow (wr.drewN nq) osq)) := S3.out.grown nq osq
                clear la lb hc S3
                generalize grow (wr.drewN nq) osq = w2 at S2 ⊢
                clear nq osq
                clear ea ec pa ba ra pc bc rc
                have hzk : (kq : Int) + 1 = (k2 : Int) := by omega
                clear zk hkq
                simp only [hzk]
                clear hzk
                have cm := S2.out.c1 R hds (k + k2) (by omega)
                have ck := S2.out.c1 R hds kk (by omega)
                have fk := S2.out.f1 R hds kk (by omega)
                rw [I2.out.high (k + k2) (by omega), ← XX.out, show off + (k + k2) = off + k + k2 by omega] at cm
                generalize dk[kk]! = old at ck
                have hlz : (k2 : Int) < ((d.size - k : Nat) : Int) := by omega
                go_wp2
                go_roundg (d.size - (k + (k2 + 1)))
                case measure => omega
                case rel => exact ⟨kk + 1, k2 + 1, dk.setIfInBounds kk x, by go_num, by go_num, by omega, by omega, Nat.le_refl _, sw_set S2.out hblk kk x (by omega), (by have := I2.out.keep hlt2 (by rw [KK.out]; rfl); rwa [← XX.out] at this)⟩
            · have hend : k + k2 = d.size := by omega
              have hcl : ∀ ty, (Builtin.clear_ #[38] ty #[.slice (some ⟨blk, off + kk, none⟩) (d.size - kk) (cap - kk)]).run prog wr = .ok (.tuple #[]) (wr.setCells blk (off + kk) (List.replicate (d.size - kk) (enc zr))) :=
                fun ty => Lib.run_clear_slice wr _ _ ty _ underlying38 (fun w => by rw [hz]; exact zeroValue26 w) (hO.cells zr) (hO zr) blk (off + kk) _ _ (by omega) (fun j hj => by rw [show off + kk + j = off + (kk + j) by omega, S3.out.c1 R hds (kk + j) (by omega)]; rfl) (fun j hj => by rw [show off + kk + j = off + (kk + j) by omega]; exact S3.out.f1 R hds (kk + j) (by omega))
              go_wp2
              go_ret
              have hI := I2.out
              rw [hend] at hI
              refine ⟨by rw [hI.len]; rfl, ?_⟩
              rw [hI.len, ← hI.done zr]
              have := sw_lay hblk (List.replicate (d.size - kk) zr) dk _ kk S3.out (by simp; omega)
              rw [List.map_replicate, hz] at this
              exact this
        | false =>
          rw [hv] at hc KK
          go_wp2_with fail
          go_quiet_grown (first | (go_at_fn g; refine Calls.grown_of (hc _ _)))
          have S2 : Aside (SW enc w blk off d (grow (wr.drewN nq) osq)) := S1.out.grown nq osq
          clear la lb hc S1
          generalize grow (wr.drewN nq) osq = w2 at S2 ⊢
          clear nq osq
          clear ea ec
          go_wp2
          go_roundg (d.size - (k + 1))
          case measure => omega
          case rel =>
            refine ⟨k + 1, by go_num, by omega, by omega, Nat.le_refl _, S2, fun j hj => ?_⟩
            by_cases e : j = k
            · subst e; exact KK.out
            · exact HA.out j (by omega)
      · have : k = d.size := by omega
        subst this
        go_wp2
        go_ret
        obtain ⟨e1, e2⟩ := HS.out _ S1.out HA.out
        exact ⟨by rw [e1]; rfl, e2⟩
theorem S : a3x prog ⟨88, sig, F⟩ := comp_sound ⟨⟨_, func88, by kernel_rfl, by kernel_rfl⟩, emp, walk⟩
end Ag0
namespace Ab8
noncomputable def sig : Sig := ⟨[pL, pL], [oB]⟩
noncomputable def cfg : Cfg := cl (cx []) fun id => match id with | 4 => ([0, 1, 12, 13], []) | _ => ([], [])
noncomputable def fin := finK cfg.c sig [.tmp 4]
noncomputable def F (d : LI × LI × Unit) : OB := anyK (a9q cfg fin (bd f89) (a5e sig.ps d 26))
variable (k : Nat) (x3 x4 : LI) (i5 i6 : Int)
noncomputable def l4 : OB := Vm.runT cfg fin k [.inLoop (sub [1, 1, 0, 1, 0, 0] (bd f89)), .inBlock 0, .code (sub [1, 1, 1] (bd f89))] ⟨[vL x3, vL x4, dD, dD, dD, dD, dD, dD, dD, dD, dD, dD, vI i5, vI i6] ++ a8I 12, []⟩
theorem l4_eq : l4 (k + 1) x3 x4 i5 i6 = if (decide (i6 < i5)) = true then if 0 ≤ i6 ∧ i6 < (x3.length : Int) then if 0 ≤ i6 ∧ i6 < (x4.length : Int) then if ((x3.getD i6.toNat 0 : Int) != (x4.getD i6.toNat 0 : Int)) = true then some ((false, ()), ()) else l4 k x3 x4 i5 (IntKind.i64.wrap (i6 + 1)) else none else none else some ((true, ()), ()) := by kernel_rfl
variable (s1_1 s2_2 : LI)
noncomputable def T : OB := if ((s1_1.length : Int) != (s2_2.length : Int)) = true then some ((false, ()), ()) else l4 k s1_1 s2_2 (s1_1.length : Int) (0 : Int)
theorem of {r} (h : Ev (fun k => T k s1_1 s2_2) r) : F (s1_1, s2_2, ()) = some r := Ev.run (fun k => by kernel_rfl) h
theorem S : a3x prog ⟨89, sig, F⟩ := sound_k (res := [.tmp 4]) func89 (cok nM)
noncomputable def cloG (y : Unit) (d : LI × LI × Unit) : Option (Bool × Unit) := (F (a9c [] [(false, tL), (false, tL)] d y)).map (·.1)
noncomputable def clo : Clo := ⟨89, ⟨[(false, tL), (false, tL)], [(.val false, .bool, .deep)]⟩, [], cloG⟩
theorem cloS : a2b prog clo := sound_clo (s := ⟨[(false, tL), (false, tL)], [(.val false, .bool, .deep)]⟩) (caps := []) rfl S
end Ab8
namespace Ab1
noncomputable def sig : Sig := ⟨[pQ], [oC]⟩
noncomputable def cfg : Cfg := cf ⟨a2X tabl, [⟨73, Ab5.sig, Ab5.F⟩, ⟨87, Ag2.sig, Ag2.F⟩, ⟨88, Ag0.sig, Ag0.F⟩], [Aa2.clo, Ab8.clo], [], [], []⟩
noncomputable def fin := finK cfg.c sig [.cell 2 42]
noncomputable def F (d : LL × Unit) : OQ := anyK (a9q cfg fin (bd f74) (a5e sig.ps d 11))
variable (list_1 : LL)
noncomputable def T : OQ := (Ab5.F (list_1, ())).bind fun r2 => (Ag2.F (r2.1.1, Aa2.cloG (()), ())).bind fun r3 => (Ag0.F (r3.2.1, Ab8.cloG (()), ())).bind fun r4 => some ((r4.1.1, ()), ())
theorem eq : F (list_1, ()) = T list_1 := eq_any fun k => by kernel_rfl
theorem S : a3x prog ⟨74, sig, F⟩ := sound_k (res := [.cell 2 42]) func74 (⟨nM, mixed_ok, tab_ok tab_good, cM ⟨Ab5.S, cM ⟨Ag2.S, cM ⟨Ag0.S, nM⟩⟩⟩, cM ⟨Aa2.cloS, cM ⟨Ab8.cloS, nM⟩⟩, nM⟩)
end Ab1
namespace Ac9
noncomputable def sig : Sig := ⟨[pQ], [oC]⟩
noncomputable def cfg : Cfg := cl (cx [⟨66, Aa6.sig, Aa6.F⟩, ⟨73, Ab5.sig, Ab5.F⟩, ⟨74, Ab1.sig, Ab1.F⟩]) fun id => match id with | 3 => ([2, 3, 4], [8, 12]) | _ => ([], [])
noncomputable def fin := finK cfg.c sig [.cell 2 42]
noncomputable def F (d : LL × Unit) : OQ := anyK (a9q cfg fin (bd f42) (a5e sig.ps d 22))
variable (k : Nat) (i3 : Int) (x4 x5 : LL)
noncomputable def l3 : OQ := Vm.runT cfg fin k [.inLoop (sub [1, 1, 0, 1, 0, 0] (bd f42)), .inBlock 0, .code (sub [1, 1, 1] (bd f42))] ⟨[dD, dD, .ref 8 (.root 0), .view 12 (.root 0) 1 false, vI i3] ++ a8I 17, [(8, ⟨true, [dQ x4]⟩), (12, ⟨false, [dQ x5]⟩)]⟩
theorem l3_eq : l3 (k + 1) i3 x4 x5 = if (decide (i3 < (x5.length : Int))) = true then if 0 ≤ i3 ∧ i3 < (x5.length : Int) then (Aa6.F (x5.getD i3.toNat ([] : LI), ())).bind fun r6 => if x5.length + r6.1.1.length ≤ bigA then l3 k (IntKind.i64.wrap (i3 + 1)) x4 (x5 ++ r6.1.1) else none else none else (Ab1.F (x5, ())).bind fun r7 => some ((r7.1.1, ()), ()) := by kernel_rfl
variable (list_1 : LL)
noncomputable def T : OQ := (Ab5.F (list_1, ())).bind fun r2 => l3 k (0 : Int) ([] : LL) r2.1.1
theorem of {r} (h : Ev (fun k => T k list_1) r) : F (list_1, ()) = some r := Ev.run (fun k => by kernel_rfl) h
theorem S : a3x prog ⟨42, sig, F⟩ := sound_k (res := [.cell 2 42]) func42 (cok (cM ⟨Aa6.S, cM ⟨Ab5.S, cM ⟨Ab1.S, nM⟩⟩⟩))
end Ac9
namespace Ac8
noncomputable def sig : Sig := ⟨[pC, .fnx ⟨[(false, tL)], [oB]⟩], [oC]⟩
noncomputable def cfg : Cfg := ⟨cx [⟨74, Ab1.sig, Ab1.F⟩], [], [], fun id => match id with | 3 => ([1, 4, 5, 9, 10, 11], [16, 20]) | _ => ([], []), fun id => match id with | 3 => [20] | _ => []⟩
noncomputable def fin := finK cfg.c sig [.cell 4 42]
noncomputable def F (d : LL × ((LI × Unit) → Option (Bool × Unit)) × Unit) : OQ := anyK (a9q cfg fin (bd f43) (a5e sig.ps d 25))
variable (k : Nat) (f3 : (LI × Unit) → Option (Bool × Unit)) (x4 : LL) (i5 i6 : Int) (x7 x8 : LL)
noncomputable def l3 : OQ := Vm.runT cfg fin k [.inLoop (sub [1, 1, 0, 1, 0, 0] (bd f43)), .inBlock 0, .code (sub [1, 1, 1] (bd f43))] ⟨[dD, .fnx ⟨[(false, tL)], [(.val false, .bool, .deep)]⟩ f3, dD, dD, .ref 16 (.root 0), .view 20 (.root 0) 1 false, dD, dD, dD, vQ x4, vI i5, vI i6] ++ a8I 13, [(16, ⟨true, [dQ x7]⟩), (20, ⟨false, [⟨tQ, .shal, x8⟩]⟩)]⟩
theorem l3_eq : l3 (k + 1) f3 x4 i5 i6 x7 x8 = if (decide (i6 < i5)) = true then if 0 ≤ i6 ∧ i6 < (x4.length : Int) then (f3 (x4.getD i6.toNat ([] : LI), ())).bind fun r9 => if r9.1 = true then if x8.length + [x4.getD i6.toNat ([] : LI)].length ≤ bigA then l3 k f3 x4 i5 (IntKind.i64.wrap (i6 + 1)) x7 (x8 ++ [x4.getD i6.toNat ([] : LI)]) else none else l3 k f3 x4 i5 (IntKind.i64.wrap (i6 + 1)) x7 x8 else none else (Ab1.F (x8, ())).bind fun r10 => some ((r10.1.1, ()), ()) := by kernel_rfl
variable (c_1 : LL) (f_2 : (LI × Unit) → Option (Bool × Unit))
noncomputable def T : OQ := l3 k f_2 c_1 (c_1.length : Int) (0 : Int) ([] : LL) ([])
theorem of {r} (h : Ev (fun k => T k c_1 f_2) r) : F (c_1, f_2, ()) = some r := Ev.run (fun k => by kernel_rfl) h
theorem S : a3x prog ⟨43, sig, F⟩ := sound_k (res := [.cell 4 42]) func43 (cok (cM ⟨Ab1.S, nM⟩))
end Ac8
namespace Ag1
noncomputable def sig : Sig := ⟨[pL, pI], [oI]⟩
noncomputable def cfg : Cfg := cl (cx []) fun id => match id with | 2 => ([0, 1, 7, 8], []) | _ => ([], [])
noncomputable def fin := finK cfg.c sig [.tmp 4]
noncomputable def F (d : LI × Int × Unit) : OI := anyK (a9q cfg fin (bd f72) (a5e sig.ps d 19))
variable (k : Nat) (x3 : LI) (i4 i5 i6 : Int)
noncomputable def l2 : OI := Vm.runT cfg fin k [.inLoop (sub [1, 0, 1, 0, 0] (bd f72)), .inBlock 0, .code (sub [1, 1] (bd f72))] ⟨[vL x3, vI i4, dD, dD, dD, dD, dD, vI i5, vI i6] ++ a8I 10, []⟩
theorem l2_eq : l2 (k + 1) x3 i4 i5 i6 = if (decide (i6 < i5)) = true then if 0 ≤ i6 ∧ i6 < (x3.length : Int) then if (i4 == (x3.getD i6.toNat 0 : Int)) = true then some ((i6, ()), ()) else l2 k x3 i4 i5 (IntKind.i64.wrap (i6 + 1)) else none else some (((-1 : Int), ()), ()) := by kernel_rfl
variable (s_1 : LI) (v_2 : Int)
noncomputable def T : OI := l2 k s_1 v_2 (s_1.length : Int) (0 : Int)
theorem of {r} (h : Ev (fun k => T k s_1 v_2) r) : F (s_1, v_2, ()) = some r := Ev.run (fun k => by kernel_rfl) h
theorem S : a3x prog ⟨72, sig, F⟩ := sound_k (res := [.tmp 4]) func72 (cok nM)
end Ag1
namespace Af7
noncomputable def sig : Sig := ⟨[pL, pI], [oB]⟩
noncomputable def cfg : Cfg := cf (cx [⟨72, Ag1.sig, Ag1.F⟩])
noncomputable def fin := finK cfg.c sig [.tmp 4]
noncomputable def F (d : LI × Int × Unit) : OB := anyK (a9q cfg fin (bd f41) (a5e sig.ps d 9))
variable (s_1 : LI) (v_2 : Int)
noncomputable def T : OB := (Ag1.F (s_1, v_2, ())).bind fun r3 => some ((decide (r3.1.1 ≥ 0), ()), ())
theorem eq : F (s_1, v_2, ()) = T s_1 v_2 := eq_any fun k => by kernel_rfl
theorem S : a3x prog ⟨41, sig, F⟩ := sound_k (res := [.tmp 4]) func41 (cok (cM ⟨Ag1.S, nM⟩))
end Af7
namespace Ag3
noncomputable def sig : Sig := ⟨[pI, .rptr tL], [oB]⟩
noncomputable def cfg : Cfg := cf (cx [⟨41, Af7.sig, Af7.F⟩])
noncomputable def fin := finK cfg.c sig [.tmp 3]
noncomputable def F (d : Int × LI × Unit) : OB := anyK (a9q cfg fin (bd f40) (a5e sig.ps d 7))
variable (v_1 : Int) (a_2 : LI)
noncomputable def T : OB := (Af7.F (a_2, v_1, ())).bind fun r3 => some ((r3.1.1, ()), ())
theorem eq : F (v_1, a_2, ()) = T v_1 a_2 := eq_any fun k => by kernel_rfl
theorem S : a3x prog ⟨40, sig, F⟩ := sound_k (res := [.tmp 3]) func40 (cok (cM ⟨Af7.S, nM⟩))
noncomputable def cloG (y : LI × Unit) (d : Int × Unit) : Option (Bool × Unit) := (F (a9c [.rptr tL] [(false, tI)] d y)).map (·.1)
noncomputable def clo : Clo := ⟨40, ⟨[(false, tI)], [(.val false, .bool, .deep)]⟩, [.rptr tL], cloG⟩
theorem cloS : a2b prog clo := sound_clo (s := ⟨[(false, tI)], [(.val false, .bool, .deep)]⟩) (caps := [.rptr tL]) rfl S
end Ag3
namespace Ad5
noncomputable def sig : Sig := ⟨[pL, .rptr tL], [oB]⟩
noncomputable def cfg : Cfg := cf ⟨a2X tabl, [⟨39, Aa5.sig, Aa5.F⟩], [Ag3.clo], [], [], []⟩
noncomputable def fin := finK cfg.c sig [.tmp 3]
noncomputable def F (d : LI × LI × Unit) : OB := anyK (a9q cfg fin (bd f38) (a5e sig.ps d 7))
variable (s_1 a_2 : LI)
noncomputable def T : OB := (Aa5.F (s_1, Ag3.cloG (a_2, ()), ())).bind fun r3 => some ((r3.1.1, ()), ())
theorem eq : F (s_1, a_2, ()) = T s_1 a_2 := eq_any fun k => by kernel_rfl
theorem S : a3x prog ⟨38, sig, F⟩ := sound_k (res := [.tmp 3]) func38 (⟨nM, mixed_ok, tab_ok tab_good, cM ⟨Aa5.S, nM⟩, cM ⟨Ag3.cloS, nM⟩, nM⟩)
noncomputable def cloG (y d : LI × Unit) : Option (Bool × Unit) := (F (a9c [.rptr tL] [(false, tL)] d y)).map (·.1)
noncomputable def clo : Clo := ⟨38, ⟨[(false, tL)], [(.val false, .bool, .deep)]⟩, [.rptr tL], cloG⟩
theorem cloS : a2b prog clo := sound_clo (s := ⟨[(false, tL)], [(.val false, .bool, .deep)]⟩) (caps := [.rptr tL]) rfl S
end Ad5
namespace Ag4
noncomputable def sig : Sig := ⟨[pL, .pfn ⟨[(false, tL)], [oB]⟩], [oB]⟩
noncomputable def cfg : Cfg := cf (cx [])
noncomputable def fin := finK cfg.c sig [.tmp 3]
noncomputable def F (d : LI × ((LI × Unit) → Option (Bool × Unit)) × Unit) : OB := anyK (a9q cfg fin (bd f44) (a5e sig.ps d 8))
variable (s_1 : LI) (f_2 : (LI × Unit) → Option (Bool × Unit))
noncomputable def T : OB := (f_2 (s_1, ())).bind fun r3 => some ((!r3.1, ()), ())
theorem eq : F (s_1, f_2, ()) = T s_1 f_2 := eq_any fun k => by kernel_rfl
theorem S : a3x prog ⟨44, sig, F⟩ := sound_k (res := [.tmp 3]) func44 (cok nM)
noncomputable def cloG (y : ((LI × Unit) → Option (Bool × Unit)) × Unit) (d : LI × Unit) : Option (Bool × Unit) := (F (a9c [.pfn ⟨[(false, tL)], [(.val false, .bool, .deep)]⟩] [(false, tL)] d y)).map (·.1)
noncomputable def clo : Clo := ⟨44, ⟨[(false, tL)], [(.val false, .bool, .deep)]⟩, [.pfn ⟨[(false, tL)], [(.val false, .bool, .deep)]⟩], cloG⟩
theorem cloS : a2b prog clo := sound_clo (s := ⟨[(false, tL)], [(.val false, .bool, .deep)]⟩) (caps := [.pfn ⟨[(false, tL)], [(.val false, .bool, .deep)]⟩]) rfl S
end Ag4
namespace Ae2
noncomputable def sig : Sig := ⟨[pC, pL], [oC, oC, oI]⟩
noncomputable def cfg : Cfg := cf ⟨a2X tabl, [⟨35, Ac0.sig, Ac0.F⟩, ⟨36, Aa9.sig, Aa9.F⟩, ⟨37, Af1.sig, Af1.F⟩, ⟨42, Ac9.sig, Ac9.F⟩, ⟨43, Ac8.sig, Ac8.F⟩], [Ad5.clo, Ag4.clo], [], [], []⟩
noncomputable def fin := finK cfg.c sig [.cell 4 42, .cell 5 42, .tmp 6]
noncomputable def F (d : LL × LI × Unit) : Option ((LL × LL × Int × Unit) × (Unit)) := anyK (a9q cfg fin (bd f18) (a5e sig.ps d 34))
variable (c_1 : LL) (vertices_2 : LI)
noncomputable def T : Option ((LL × LL × Int × Unit) × (Unit)) := (Ac0.F (c_1, ())).bind fun r3 => if (!r3.1.1) = true then some (([], ([], ((1 : Int), ()))), ()) else (Aa9.F (vertices_2, ())).bind fun r4 => if (!r4.1.1) = true then some (([], ([], ((2 : Int), ()))), ()) else (Af1.F (vertices_2, (10 : Int), ())).bind fun r5 => if (!r5.1.1) = true then some (([], ([], ((2 : Int), ()))), ()) else (Ac8.F (c_1, Ad5.cloG (vertices_2, ()), ())).bind fun r6 => (Ac9.F (r6.1.1, ())).bind fun r7 => (Ac8.F (c_1, Ag4.cloG ((Ad5.cloG (vertices_2, ())), ()), ())).bind fun r8 => some ((r7.1.1, (r8.1.1, ((0 : Int), ()))), ())
theorem eq : F (c_1, vertices_2, ()) = T c_1 vertices_2 := eq_any fun k => by kernel_rfl
theorem S : a3x prog ⟨18, sig, F⟩ := sound_k (res := [.cell 4 42, .cell 5 42, .tmp 6]) func18 (⟨nM, mixed_ok, tab_ok tab_good, cM ⟨Ac0.S, cM ⟨Aa9.S, cM ⟨Af1.S, cM ⟨Ac9.S, cM ⟨Ac8.S, nM⟩⟩⟩⟩⟩, cM ⟨Ad5.cloS, cM ⟨Ag4.cloS, nM⟩⟩, nM⟩)
end Ae2
namespace Ac2
noncomputable def sig : Sig := ⟨[pQ, pQ], [oB]⟩
noncomputable def cfg : Cfg := cl (cx [⟨9, Aa4.sig, Aa4.F⟩]) fun id => match id with | 4 => ([0, 1, 5], []) | _ => ([], [])
noncomputable def fin := finK cfg.c sig [.tmp 4]
noncomputable def F (d : LL × LL × Unit) : OB := anyK (a9q cfg fin (bd f45) (a5e sig.ps d 27))
variable (k : Nat) (x3 x4 : LL) (i5 : Int)
noncomputable def l4 : OB := Vm.runT cfg fin k [.inLoop (sub [1, 1, 0, 1, 0, 0] (bd f45)), .inBlock 0, .code (sub [1, 1, 1] (bd f45))] ⟨[vQ x3, vQ x4, dD, dD, dD, vI i5] ++ a8I 21, []⟩
theorem l4_eq : l4 (k + 1) x3 x4 i5 = if (decide (i5 < (x3.length : Int))) = true then if 0 ≤ i5 ∧ i5 < (x3.length : Int) then if 0 ≤ i5 ∧ i5 < (x4.length : Int) then (Aa4.F (x3.getD i5.toNat ([] : LI), x4.getD i5.toNat ([] : LI), ())).bind fun r6 => if (!r6.1.1) = true then some ((false, ()), ()) else l4 k x3 x4 (IntKind.i64.wrap (i5 + 1)) else none else none else some ((true, ()), ()) := by kernel_rfl
variable (a_1 b_2 : LL)
noncomputable def T : OB := if ((a_1.length : Int) != (b_2.length : Int)) = true then some ((false, ()), ()) else l4 k a_1 b_2 (0 : Int)
theorem of {r} (h : Ev (fun k => T k a_1 b_2) r) : F (a_1, b_2, ()) = some r := Ev.run (fun k => by kernel_rfl) h
theorem S : a3x prog ⟨45, sig, F⟩ := sound_k (res := [.tmp 4]) func45 (cok (cM ⟨Aa4.S, nM⟩))
end Ac2
namespace Ab3
noncomputable def sig : Sig := ⟨[pC, pC], [oB]⟩
noncomputable def cfg : Cfg := cf (cx [⟨45, Ac2.sig, Ac2.F⟩])
noncomputable def fin := finK cfg.c sig [.tmp 4]
noncomputable def F (d : LL × LL × Unit) : OB := anyK (a9q cfg fin (bd f19) (a5e sig.ps d 11))
variable (a_1 b_2 : LL)
noncomputable def T : OB := (Ac2.F (a_1, b_2, ())).bind fun r3 => if (!r3.1.1) = true then some ((false, ()), ()) else some ((true, ()), ())
theorem eq : F (a_1, b_2, ()) = T a_1 b_2 := eq_any fun k => by kernel_rfl
theorem S : a3x prog ⟨19, sig, F⟩ := sound_k (res := [.tmp 4]) func19 (cok (cM ⟨Ac2.S, nM⟩))
end Ab3
namespace Ad0
noncomputable def sig : Sig := ⟨[.wr false tQ .deep, pI], [oI]⟩
noncomputable def cfg : Cfg := ⟨cx [⟨12, Ab0.sig, Ab0.F⟩], [0], [], fun id => match id with | 2 => ([0, 1, 5], [0]) | _ => ([], []), fun _ => []⟩
noncomputable def fin := finK cfg.c sig [.tmp 4]
noncomputable def F (d : LL × Int × Unit) : Option ((Int × Unit) × (LL × Unit)) := anyK (a9q cfg fin (bd f46) (a5e sig.ps d 19))
variable (k : Nat) (i3 i4 : Int) (x5 : LL)
noncomputable def l2 : Option ((Int × Unit) × (LL × Unit)) := Vm.runT cfg fin k [.inLoop (sub [1, 0, 1, 0, 0] (bd f46)), .inBlock 0, .code (sub [1, 1] (bd f46))] ⟨[.view 0 (.root 0) 1 false, vI i3, dD, dD, dD, vI i4] ++ a8I 13, [(0, ⟨false, [dQ x5]⟩)]⟩
theorem l2_eq : l2 (k + 1) i3 i4 x5 = if (decide (i4 < (x5.length : Int))) = true then if 0 ≤ i4 ∧ i4 < (x5.length : Int) then (Ab0.F (x5.getD i4.toNat ([] : LI), i3, ())).bind fun r6 => l2 k r6.1.1 (IntKind.i64.wrap (i4 + 1)) (x5.set i4.toNat r6.2.1) else none else some ((i3, ()), (x5, ())) := by kernel_rfl
variable (a_1 : LL) (k_2 : Int)
noncomputable def T : Option ((Int × Unit) × (LL × Unit)) := l2 k k_2 (0 : Int) a_1
theorem of {r} (h : Ev (fun k => T k a_1 k_2) r) : F (a_1, k_2, ()) = some r := Ev.run (fun k => by kernel_rfl) h
theorem S : a3x prog ⟨46, sig, F⟩ := sound_k (res := [.tmp 4]) func46 (cok (cM ⟨Ab0.S, nM⟩))
end Ad0
namespace Ab2
noncomputable def sig : Sig := ⟨[.wr true tQ .deep, pI], [oI]⟩
noncomputable def cfg : Cfg := ⟨cx [⟨46, Ad0.sig, Ad0.F⟩], [0], [], fun _ => ([], []), fun _ => []⟩
noncomputable def fin := finK cfg.c sig [.tmp 4]
noncomputable def F (d : LL × Int × Unit) : Option ((Int × Unit) × (LL × Unit)) := anyK (a9q cfg fin (bd f20) (a5e sig.ps d 10))
variable (a_1 : LL) (k_2 : Int)
noncomputable def T : Option ((Int × Unit) × (LL × Unit)) := (Ad0.F (a_1, k_2, ())).bind fun r3 => some ((r3.1.1, ()), (r3.2.1, ()))
theorem eq : F (a_1, k_2, ()) = T a_1 k_2 := eq_any fun k => by kernel_rfl
theorem S : a3x prog ⟨20, sig, F⟩ := sound_k (res := [.tmp 4]) func20 (cok (cM ⟨Ad0.S, nM⟩))
end Ab2
namespace Ad7
noncomputable def sig : Sig := ⟨[pL, pI], [oI]⟩
noncomputable def cfg : Cfg := cl (cx []) fun id => match id with | 2 => ([0, 1, 5], []) | _ => ([], [])
noncomputable def fin := finK cfg.c sig [.tmp 4]
noncomputable def F (d : LI × Int × Unit) : OI := anyK (a9q cfg fin (bd f13) (a5e sig.ps d 21))
variable (k : Nat) (x3 : LI) (i4 i5 : Int)
noncomputable def l2 : OI := Vm.runT cfg fin k [.inLoop (sub [1, 0, 1, 0, 0] (bd f13)), .inBlock 0, .code (sub [1, 1] (bd f13))] ⟨[vL x3, vI i4, dD, dD, dD, vI i5] ++ a8I 15, []⟩
theorem l2_eq : l2 (k + 1) x3 i4 i5 = if (decide (i5 < (x3.length : Int))) = true then if 0 ≤ i5 ∧ i5 < (x3.length : Int) then if ((x3.getD i5.toNat 0 : Int) != i4) = true then some (((-1 : Int), ()), ()) else l2 k x3 (IntKind.i64.wrap (i4 + 1)) (IntKind.i64.wrap (i5 + 1)) else none else some ((i4, ()), ()) := by kernel_rfl
variable (a_1 : LI) (k_2 : Int)
noncomputable def T : OI := l2 k a_1 k_2 (0 : Int)
theorem of {r} (h : Ev (fun k => T k a_1 k_2) r) : F (a_1, k_2, ()) = some r := Ev.run (fun k => by kernel_rfl) h
theorem S : a3x prog ⟨13, sig, F⟩ := sound_k (res := [.tmp 4]) func13 (cok nM)
end Ad7
namespace Ad8
noncomputable def sig : Sig := ⟨[pQ, pI], [oI]⟩
noncomputable def cfg : Cfg := cl (cx [⟨13, Ad7.sig, Ad7.F⟩]) fun id => match id with | 2 => ([0, 1, 5], []) | _ => ([], [])
noncomputable def fin := finK cfg.c sig [.tmp 4]
noncomputable def F (d : LL × Int × Unit) : OI := anyK (a9q cfg fin (bd f47) (a5e sig.ps d 21))
variable (k : Nat) (x3 : LL) (i4 i5 : Int)
noncomputable def l2 : OI := Vm.runT cfg fin k [.inLoop (sub [1, 0, 1, 0, 0] (bd f47)), .inBlock 0, .code (sub [1, 1] (bd f47))] ⟨[vQ x3, vI i4, dD, dD, dD, vI i5] ++ a8I 15, []⟩
theorem l2_eq : l2 (k + 1) x3 i4 i5 = if (decide (i5 < (x3.length : Int))) = true then if 0 ≤ i5 ∧ i5 < (x3.length : Int) then (Ad7.F (x3.getD i5.toNat ([] : LI), i4, ())).bind fun r6 => if (decide (r6.1.1 < 0)) = true then some (((-1 : Int), ()), ()) else l2 k x3 r6.1.1 (IntKind.i64.wrap (i5 + 1)) else none else some ((i4, ()), ()) := by kernel_rfl
variable (a_1 : LL) (k_2 : Int)
noncomputable def T : OI := l2 k a_1 k_2 (0 : Int)
theorem of {r} (h : Ev (fun k => T k a_1 k_2) r) : F (a_1, k_2, ()) = some r := Ev.run (fun k => by kernel_rfl) h
theorem S : a3x prog ⟨47, sig, F⟩ := sound_k (res := [.tmp 4]) func47 (cok (cM ⟨Ad7.S, nM⟩))
end Ad8
namespace Ad6
noncomputable def sig : Sig := ⟨[pC, pI], [oI]⟩
noncomputable def cfg : Cfg := cf (cx [⟨47, Ad8.sig, Ad8.F⟩])
noncomputable def fin := finK cfg.c sig [.tmp 4]
noncomputable def F (d : LL × Int × Unit) : OI := anyK (a9q cfg fin (bd f21) (a5e sig.ps d 12))
variable (a_1 : LL) (k_2 : Int)
noncomputable def T : OI := (Ad8.F (a_1, k_2, ())).bind fun r3 => if (decide (r3.1.1 < 0)) = true then some (((-1 : Int), ()), ()) else some ((r3.1.1, ()), ())
theorem eq : F (a_1, k_2, ()) = T a_1 k_2 := eq_any fun k => by kernel_rfl
theorem S : a3x prog ⟨21, sig, F⟩ := sound_k (res := [.tmp 4]) func21 (cok (cM ⟨Ad8.S, nM⟩))
end Ad6
namespace Ae3
noncomputable def sig : Sig := ⟨[pC, pL], [oB]⟩
noncomputable def cfg : Cfg := cf (cx [⟨9, Aa4.sig, Aa4.F⟩, ⟨12, Ab0.sig, Ab0.F⟩, ⟨14, Af3.sig, Af3.F⟩, ⟨15, Af8.sig, Af8.F⟩, ⟨16, Ad1.sig, Ad1.F⟩, ⟨17, Aa7.sig, Aa7.F⟩, ⟨18, Ae2.sig, Ae2.F⟩, ⟨19, Ab3.sig, Ab3.F⟩, ⟨20, Ab2.sig, Ab2.F⟩, ⟨21, Ad6.sig, Ad6.F⟩])
noncomputable def fin := finK cfg.c sig [.tmp 4]
noncomputable def F (d : LL × LI × Unit) : OB := anyK (a9q cfg fin (bd f4) (a5e sig.ps d 154))
variable (toArray_1 : LL) (a_2 : LI)
noncomputable def T : OB := if (decide ((a_2.length : Int) > 1048576)) = true then some ((true, ()), ()) else (Af3.F (toArray_1, (1048576 : Int), ())).bind fun r3 => if (decide (r3.1.1 < 0)) = true then some ((true, ()), ()) else (Ad1.F (toArray_1, ())).bind fun r4 => (Aa7.F (a_2, ())).bind fun r5 => (Af8.F (r4.1.1, r5.1.1, ())).bind fun r6 => (Ad1.F (toArray_1, ())).bind fun r7 => (Aa7.F (a_2, ())).bind fun r8 => (Ae2.F (r7.1.1, r8.1.1, ())).bind fun r9 => (Ab3.F (r9.1.1, r6.1.1, ())).bind fun r10 => if (!r10.1.1) = true then some ((false, ()), ()) else (Ab3.F (r9.1.2.1, r6.1.2.1, ())).bind fun r11 => if (!r11.1.1) = true then some ((false, ()), ()) else if (r9.1.2.2.1 != r6.1.2.2.1) = true then some ((false, ()), ()) else (Ad1.F (toArray_1, ())).bind fun r12 => (Ab3.F (r7.1.1, r12.1.1, ())).bind fun r13 => if (!r13.1.1) = true then some ((false, ()), ()) else (Aa7.F (a_2, ())).bind fun r14 => (Aa4.F (r8.1.1, r14.1.1, ())).bind fun r15 => if (!r15.1.1) = true then some ((false, ()), ()) else (Ab2.F (r7.1.1, (1 : Int), ())).bind fun r16 => (Ab0.F (r8.1.1, r16.1.1, ())).bind fun r17 => if (decide (r17.1.1 < 0)) = true then some ((false, ()), ()) else (Ab3.F (r9.1.1, r6.1.1, ())).bind fun r18 => if (!r18.1.1) = true then some ((false, ()), ()) else (Ab3.F (r9.1.2.1, r6.1.2.1, ())).bind fun r19 => if (!r19.1.1) = true then some ((false, ()), ()) else if (r9.1.2.2.1 != r6.1.2.2.1) = true then some ((false, ()), ()) else (Ab2.F (r9.1.1, (1 : Int), ())).bind fun r20 => (Ab2.F (r9.1.2.1, r20.1.1, ())).bind fun r21 => (Ad6.F (r20.2.1, (1 : Int), ())).bind fun r22 => if (decide (r22.1.1 < 0)) = true then some ((false, ()), ()) else (Ad6.F (r21.2.1, r22.1.1, ())).bind fun r23 => if (decide (r23.1.1 < 0)) = true then some ((false, ()), ()) else if (r23.1.1 != r21.1.1) = true then some ((false, ()), ()) else (Ad1.F (toArray_1, ())).bind fun r24 => (Aa7.F (a_2, ())).bind fun r25 => (Ae2.F (r24.1.1, r25.1.1, ())).bind fun r26 => (Ab3.F (r26.1.1, r6.1.1, ())).bind fun r27 => if (!r27.1.1) = true then some ((false, ()), ()) else (Ab3.F (r26.1.2.1, r6.1.2.1, ())).bind fun r28 => if (!r28.1.1) = true then some ((false, ()), ()) else if (r26.1.2.2.1 != r6.1.2.2.1) = true then some ((false, ()), ()) else (Ad6.F (r20.2.1, (1 : Int), ())).bind fun r29 => if (decide (r29.1.1 < 0)) = true then some ((false, ()), ()) else (Ad6.F (r21.2.1, r29.1.1, ())).bind fun r30 => if (decide (r30.1.1 < 0)) = true then some ((false, ()), ()) else if (r30.1.1 != r21.1.1) = true then some ((false, ()), ()) else some ((true, ()), ())
theorem eq : F (toArray_1, a_2, ()) = T toArray_1 a_2 := eq_any fun k => by kernel_rfl
theorem S : a3x prog ⟨4, sig, F⟩ := sound_k (res := [.tmp 4]) func4 (cok (cM ⟨Aa4.S, cM ⟨Ab0.S, cM ⟨Af3.S, cM ⟨Af8.S, cM ⟨Ad1.S, cM ⟨Aa7.S, cM ⟨Ae2.S, cM ⟨Ab3.S, cM ⟨Ab2.S, cM ⟨Ad6.S, nM⟩⟩⟩⟩⟩⟩⟩⟩⟩⟩))
end Ae3
end Go.Proofs.Ytfdnjokpgjnmnaa
