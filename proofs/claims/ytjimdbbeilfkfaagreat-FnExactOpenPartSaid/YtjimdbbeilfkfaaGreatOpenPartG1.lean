/- The functions, as the machine runs them. -/
import Derived.Test.YtjimdbbeilfkfaaGreatVm4
import Derived.Test.YtjimdbbeilfkfaaGreatProg
import Derived.KernelRfl
import Derived.WalkKit
import Derived.Lib.Walk
import Derived.Lib.AppendZeros
import Derived.Sort.WalkA
import Derived.Sort.WalkB2
import Derived.Sort.WalkB12
import Derived.Deep.LoopGhost
import Derived.Shelf.RegionOpenPlain
import Derived.Lib.SliceRun
namespace Go.Proofs.YtjimdbbeilfkfaaGreat
open Go Go.Vm
set_option linter.unusedVariables false
set_option linter.unusedSimpArgs false
open Go.Proofs.Tryz
abbrev LI := List Int
abbrev LL := List LI
abbrev MX := Int × Int × Int × LI
abbrev LM := List MX
abbrev SF := LL × Int × LI × LM
abbrev OI := Option ((Int × Unit) × Unit)
abbrev OB := Option ((Bool × Unit) × Unit)
abbrev OL := Option ((LI × Unit) × Unit)
abbrev OQ := Option ((LL × Unit) × Unit)
abbrev OM := Option ((MX × Unit) × Unit)
abbrev OS := Option ((SF × Unit) × Unit)
abbrev tI : Ty := .int .i64
abbrev tL : Ty := .sl tI
abbrev tQ : Ty := .sl tL
abbrev cI (x : Int) : Cell := ⟨tI, .sh, x⟩
abbrev cL (x : LI) : Cell := ⟨tL, .sh, x⟩
abbrev dL (x : LI) : Cell := ⟨tL, .deep, x⟩
abbrev cQ (x : LL) : Cell := ⟨tQ, .sh, x⟩
abbrev dQ (x : LL) : Cell := ⟨tQ, .deep, x⟩
abbrev vI (x : Int) : TV := .val false [cI x]
abbrev vL (x : LI) : TV := .val false [cL x]
abbrev vQ (x : LL) : TV := .val false [cQ x]
abbrev TMatrix_2 : Ty := .pair tI tL
abbrev TMatrix_1 : Ty := .pair tI TMatrix_2
abbrev TMatrix : Ty := .pair tI TMatrix_1
abbrev TEdge_1 : Ty := .pair tI tI
abbrev TEdge : Ty := .pair tI TEdge_1
abbrev TSheaf_2 : Ty := .pair tL (.sl TMatrix)
abbrev TSheaf_1 : Ty := .pair tI TSheaf_2
abbrev TSheaf : Ty := .pair tQ TSheaf_1
def tabl : List (Nat × TInfo) := [
  (2, ⟨false, tI, 0, []⟩),
  (3, ⟨false, tI, 0, []⟩),
  (4, ⟨false, .bool, 0, []⟩),
  (22, ⟨false, tQ, 25, []⟩),
  (24, ⟨true, tQ, 0, [(0, 1, false)]⟩),
  (25, ⟨false, tL, 2, []⟩),
  (26, ⟨false, (.sl TMatrix), 90, []⟩),
  (32, ⟨true, tQ, 0, [(0, 1, false)]⟩),
  (33, ⟨false, (.sl TMatrix), 87, []⟩),
  (42, ⟨true, TSheaf, 0, [(0, 1, true), (1, 1, false), (2, 1, false), (3, 1, false)]⟩),
  (46, ⟨true, TSheaf, 0, [(0, 1, true), (1, 1, false), (2, 1, false), (3, 1, false)]⟩),
  (87, ⟨true, TMatrix, 0, [(0, 1, false), (1, 1, false), (2, 1, false), (3, 1, false)]⟩),
  (90, ⟨true, TMatrix, 0, [(0, 1, false), (1, 1, false), (2, 1, false), (3, 1, false)]⟩),
  (127, ⟨false, .any, 0, []⟩),
  (138, ⟨true, TEdge, 0, [(0, 1, false), (1, 1, false), (2, 1, false)]⟩),
  (197, ⟨false, (.sl TEdge), 138, []⟩),
  (235, ⟨false, (.int .u64), 0, []⟩),
  (242, ⟨false, tL, 3, []⟩)]
theorem tab_good : tabB Go.Proofs.Tryz.prog tabl = true := by kernel_rfl
theorem tab_open : b3P Go.Proofs.Tryz.prog tabl = true := by kernel_rfl
theorem mixed_ok : Go.Proofs.Tryz.prog.follows .mixedOrders = true := by kernel_rfl
set_option maxHeartbeats 2000000 in
set_option maxRecDepth 100000 in
theorem slices_Grow_Lint64_int64.grow0 (w : World) : Calls Go.Proofs.Tryz.prog 293 #[.slice none 0 0, .int .i64 ((0 : Nat) : Int)] w fun e w' => e = .returned (.slice none 0 0) ∧ w' = w := by
  have h2 : Go.RowKit.wrap64 (((0 : Nat) : Int) - ((0 : Nat) : Int)) = 0 := by unfold Go.RowKit.wrap64; omega
  go_enter Go.Proofs.Tryz.func293, Go.Proofs.Tryz.ntmps293
  go_wp2
  go_ret
  exact ⟨rfl, rfl⟩
set_option maxHeartbeats 4000000 in
set_option maxRecDepth 100000 in
theorem slices_Grow_Lint64_int64.grow1 (w : World) (n : Nat) (h0 : 0 < n) (hn : n ≤ 1099511627776) (i : TypeInfo) (z : Value) (hi : Go.Proofs.Tryz.prog.info? 2 = some i) (hz : i.zero = some z) (hs : 0 < i.size) (hb : i.bytes ≤ 256) :
    Calls Go.Proofs.Tryz.prog 293 #[.slice none 0 0, .int .i64 (n : Int)] w fun e w' => ∃ G, n ≤ G ∧ G ≤ 9223372036854775807 ∧ e = .returned (.slice (some ⟨w.heap.size, 0, none⟩) 0 G) ∧ w' = w.drew.alloc (.cells (Builtin.zeroCells z.cells n ++ Builtin.zeroCells z.cells (G - n)) 2) := by
  have h1 : ¬ ((n : Int) < 0) := by omega
  have h2 : Go.RowKit.wrap64 (((0 : Nat) : Int) - ((0 : Nat) : Int)) = 0 := by unfold Go.RowKit.wrap64; omega
  have h3 : Go.RowKit.wrap64 ((n : Int) - 0) = (n : Int) := by unfold Go.RowKit.wrap64; omega
  have h4 : (n : Int) > 0 := by omega
  have hm : n * i.bytes ≤ 1099511627776 * 256 := Nat.mul_le_mul hn hb
  have hrz : ∀ ty, (Builtin.append_ #[25, 3] ty #[.slice none 0 0, .int .i64 (n : Int)]).run Go.Proofs.Tryz.prog w =
      .ok (.slice (some ⟨w.heap.size, 0, none⟩) n (grownCap w n 0 2)) (w.drew.alloc (.cells (Builtin.zeroCells z.cells n ++ Builtin.zeroCells z.cells (grownCap w n 0 2 - n)) 2)) := fun ty =>
    Lib.run_append_nil_zeros (P := Go.Proofs.Tryz.prog) w 25 3 ty 2 i z .i64 .i64 (by kernel_rfl) (by kernel_rfl) hi hz n h0 hs (by omega) (by omega)
  have hGn : n ≤ grownCap w n 0 2 := grownCap_ge w _ _ _
  obtain ⟨G, hG⟩ : ∃ G, G = grownCap w n 0 2 := ⟨_, rfl⟩
  have hG63 : G ≤ 9223372036854775807 := by
    have := grownCap_le_maxLen w n 0 2 (by unfold maxLen; omega)
    rw [← hG] at this
    unfold maxLen at this
    omega
  rw [← hG] at hrz hGn
  clear hG
  refine Calls.mono (R := fun e w' => e = .returned (.slice (some ⟨w.heap.size, 0, none⟩) 0 G) ∧ w' = w.drew.alloc (.cells (Builtin.zeroCells z.cells n ++ Builtin.zeroCells z.cells (G - n)) 2)) ?_ fun e w' h => ⟨G, hGn, hG63, h.1, h.2⟩
  clear hi hz hs hb hm
  go_enter Go.Proofs.Tryz.func293, Go.Proofs.Tryz.ntmps293
  go_wp2_with (at_builtin; refine Lib.wpList_append_run _ rfl _ _ _ _ rfl _ _ rfl rfl _ _ (hrz _) ?_)
  all_goals (go_ret; exact ⟨rfl, rfl⟩)
theorem slices_Grow_Lint64_int64.growOK : b1h Go.Proofs.Tryz.prog (293, tI) := by
  have hT : a2X tabl 2 = some ⟨false, tI, 0, []⟩ := by kernel_rfl
  obtain ⟨inf, h1, h2, h3, h4, h5⟩ := (tab_ok tab_good).info 2 _ hT
  exact growOK_of ⟨Go.Proofs.Tryz.f293, Go.Proofs.Tryz.func293, by kernel_rfl, by kernel_rfl⟩ (a6I (tab_ok tab_good) hT) slices_Grow_Lint64_int64.grow0 fun w n a b => slices_Grow_Lint64_int64.grow1 w n a b inf _ h1 h5 (by rw [h2]; exact a3i _) h4
abbrev pS : PS := .val true TSheaf
abbrev pC : PS := .val true tQ
abbrev pQ : PS := .val false tQ
abbrev pL : PS := .val false tL
abbrev pI : PS := .val false tI
abbrev pM : PS := .val true TMatrix
abbrev qS : PS := .rptr TSheaf
abbrev qC : PS := .rptr tQ
abbrev qM : PS := .rptr TMatrix
abbrev oI : OutK × Ty × Vm.Mode := (.val false, tI, .deep)
abbrev oB : OutK × Ty × Vm.Mode := (.val false, .bool, .deep)
abbrev oL : OutK × Ty × Vm.Mode := (.val false, tL, .deep)
abbrev oQ : OutK × Ty × Vm.Mode := (.val false, tQ, .deep)
abbrev oC : OutK × Ty × Vm.Mode := (.val true, tQ, .deep)
abbrev oS : OutK × Ty × Vm.Mode := (.val true, TSheaf, .deep)
abbrev oM : OutK × Ty × Vm.Mode := (.val true, TMatrix, .deep)
abbrev bd (f : Func) : Code := f.body.getD .skip
abbrev cx (l : List Vm.Callee) : Ctx := ⟨a2X tabl, l, [], [], [], []⟩
abbrev cf (c : Ctx) : Cfg := ⟨c, [], [], fun _ => ([], []), fun _ => []⟩
abbrev cl (c : Ctx) (f : Nat → List Nat × List Nat) : Cfg := ⟨c, [], [], f, fun _ => []⟩
theorem nM {α : Type} {p : α → Prop} : ∀ x ∈ ([] : List α), p x := List.forall_mem_nil _
theorem cM {α : Type} {p : α → Prop} {a : α} {l : List α} (h : p a ∧ ∀ x ∈ l, p x) : ∀ x ∈ a :: l, p x := List.forall_mem_cons.2 h
theorem cok {l : List Vm.Callee} (h : ∀ e ∈ l, a3x prog e) : CtxOK prog (cx l) := ⟨nM, mixed_ok, tab_ok tab_good, h, nM, nM⟩
abbrev dD : TV := .dead

namespace Ac9
noncomputable def sig : Sig := ⟨[pL, pI], [oI]⟩
noncomputable def cfg : Cfg := cf (cx [])
noncomputable def fin := finK cfg.c sig [.tmp 4]
noncomputable def F (d : LI × Int × Unit) : OI := anyK (a9q cfg fin (bd f62) (a5e sig.ps d 12))
variable (a_1 : LI) (left_2 : Int)
noncomputable def T : OI := if (decide ((IntKind.i64.wrap (left_2 - (a_1.length : Int))) < 0)) = true then some (((-1 : Int), ()), ()) else some ((IntKind.i64.wrap (left_2 - (a_1.length : Int)), ()), ())
theorem eq : F (a_1, left_2, ()) = T a_1 left_2 := eq_any fun k => by kernel_rfl
theorem S : a3x prog ⟨62, sig, F⟩ := sound_k (res := [.tmp 4]) func62 (cok nM)
end Ac9
namespace Ak8
noncomputable def sig : Sig := ⟨[pM, pI], [oI]⟩
noncomputable def cfg : Cfg := cf (cx [⟨62, Ac9.sig, Ac9.F⟩])
noncomputable def fin := finK cfg.c sig [.tmp 4]
noncomputable def F (d : MX × Int × Unit) : OI := anyK (a9q cfg fin (bd f71) (a5e sig.ps d 12))
noncomputable def T (a_1 a_2 a_3 : Int) (a_4 : LI) (left_5 : Int) : OI := (Ac9.F (a_4, left_5, ())).bind fun r6 => if (decide (r6.1.1 < 0)) = true then some (((-1 : Int), ()), ()) else some ((r6.1.1, ()), ())
theorem eq (a_1 a_2 a_3 : Int) (a_4 : LI) (left_5 : Int) : F ((a_1, (a_2, (a_3, a_4))), left_5, ()) = T a_1 a_2 a_3 a_4 left_5 := eq_any fun k => by kernel_rfl
theorem S : a3x prog ⟨71, sig, F⟩ := sound_k (res := [.tmp 4]) func71 (cok (cM ⟨Ac9.S, nM⟩))
end Ak8
namespace Af2
noncomputable def sig : Sig := ⟨[.val false (.sl TMatrix), pI], [oI]⟩
noncomputable def cfg : Cfg := cl (cx [⟨71, Ak8.sig, Ak8.F⟩]) fun id => match id with | 5 => ([0, 1, 5], []) | _ => ([], [])
noncomputable def fin := finK cfg.c sig [.tmp 4]
noncomputable def F (d : LM × Int × Unit) : OI := anyK (a9q cfg fin (bd f25) (a5e sig.ps d 27))
variable (k : Nat) (x3 : LM) (i4 i5 : Int)
noncomputable def l5 : OI := Vm.runT cfg fin k [.inLoop (sub [1, 1, 1, 0, 1, 0, 0] (bd f25)), .inBlock 0, .code (sub [1, 1, 1, 1] (bd f25))] ⟨[.val false [⟨(.sl TMatrix), .sh, x3⟩], vI i4, dD, dD, dD, vI i5] ++ a8I 21, []⟩
theorem l5_eq : l5 (k + 1) x3 i4 i5 = if (decide (i5 < (x3.length : Int))) = true then if 0 ≤ i5 ∧ i5 < (x3.length : Int) then (Ak8.F (x3.getD i5.toNat (0, 0, 0, ([] : LI)), i4, ())).bind fun r6 => if (decide (r6.1.1 < 0)) = true then some (((-1 : Int), ()), ()) else l5 k x3 r6.1.1 (IntKind.i64.wrap (i5 + 1)) else none else some ((i4, ()), ()) := by kernel_rfl
variable (a_1 : LM) (left_2 : Int)
noncomputable def T : OI := if (decide ((IntKind.i64.wrap (left_2 - (a_1.length : Int))) < 0)) = true then some (((-1 : Int), ()), ()) else l5 k a_1 (IntKind.i64.wrap (left_2 - (a_1.length : Int))) (0 : Int)
theorem of {r} (h : Ev (fun k => T k a_1 left_2) r) : F (a_1, left_2, ()) = some r := Ev.run (fun k => by kernel_rfl) h
theorem S : a3x prog ⟨25, sig, F⟩ := sound_k (res := [.tmp 4]) func25 (cok (cM ⟨Ak8.S, nM⟩))
end Af2
namespace Af1
noncomputable def sig : Sig := ⟨[pQ, pI], [oI]⟩
noncomputable def cfg : Cfg := cl (cx [⟨62, Ac9.sig, Ac9.F⟩]) fun id => match id with | 5 => ([0, 1, 5], []) | _ => ([], [])
noncomputable def fin := finK cfg.c sig [.tmp 4]
noncomputable def F (d : LL × Int × Unit) : OI := anyK (a9q cfg fin (bd f83) (a5e sig.ps d 27))
variable (k : Nat) (x3 : LL) (i4 i5 : Int)
noncomputable def l5 : OI := Vm.runT cfg fin k [.inLoop (sub [1, 1, 1, 0, 1, 0, 0] (bd f83)), .inBlock 0, .code (sub [1, 1, 1, 1] (bd f83))] ⟨[vQ x3, vI i4, dD, dD, dD, vI i5] ++ a8I 21, []⟩
theorem l5_eq : l5 (k + 1) x3 i4 i5 = if (decide (i5 < (x3.length : Int))) = true then if 0 ≤ i5 ∧ i5 < (x3.length : Int) then (Ac9.F (x3.getD i5.toNat ([] : LI), i4, ())).bind fun r6 => if (decide (r6.1.1 < 0)) = true then some (((-1 : Int), ()), ()) else l5 k x3 r6.1.1 (IntKind.i64.wrap (i5 + 1)) else none else some ((i4, ()), ()) := by kernel_rfl
variable (a_1 : LL) (left_2 : Int)
noncomputable def T : OI := if (decide ((IntKind.i64.wrap (left_2 - (a_1.length : Int))) < 0)) = true then some (((-1 : Int), ()), ()) else l5 k a_1 (IntKind.i64.wrap (left_2 - (a_1.length : Int))) (0 : Int)
theorem of {r} (h : Ev (fun k => T k a_1 left_2) r) : F (a_1, left_2, ()) = some r := Ev.run (fun k => by kernel_rfl) h
theorem S : a3x prog ⟨83, sig, F⟩ := sound_k (res := [.tmp 4]) func83 (cok (cM ⟨Ac9.S, nM⟩))
end Af1
namespace Af0
noncomputable def sig : Sig := ⟨[pC, pI], [oI]⟩
noncomputable def cfg : Cfg := cf (cx [⟨83, Af1.sig, Af1.F⟩])
noncomputable def fin := finK cfg.c sig [.tmp 4]
noncomputable def F (d : LL × Int × Unit) : OI := anyK (a9q cfg fin (bd f35) (a5e sig.ps d 12))
variable (a_1 : LL) (left_2 : Int)
noncomputable def T : OI := (Af1.F (a_1, left_2, ())).bind fun r3 => if (decide (r3.1.1 < 0)) = true then some (((-1 : Int), ()), ()) else some ((r3.1.1, ()), ())
theorem eq : F (a_1, left_2, ()) = T a_1 left_2 := eq_any fun k => by kernel_rfl
theorem S : a3x prog ⟨35, sig, F⟩ := sound_k (res := [.tmp 4]) func35 (cok (cM ⟨Af1.S, nM⟩))
end Af0
namespace Aj2
noncomputable def sig : Sig := ⟨[pS, pI], [oI]⟩
noncomputable def cfg : Cfg := cf (cx [⟨25, Af2.sig, Af2.F⟩, ⟨35, Af0.sig, Af0.F⟩, ⟨62, Ac9.sig, Ac9.F⟩])
noncomputable def fin := finK cfg.c sig [.tmp 4]
noncomputable def F (d : SF × Int × Unit) : OI := anyK (a9q cfg fin (bd f24) (a5e sig.ps d 24))
noncomputable def T (a_1 : LL) (a_2 : Int) (a_3 : LI) (a_4 : LM) (left_5 : Int) : OI := (Af0.F (a_1, left_5, ())).bind fun r6 => if (decide (r6.1.1 < 0)) = true then some (((-1 : Int), ()), ()) else (Ac9.F (a_3, r6.1.1, ())).bind fun r7 => if (decide (r7.1.1 < 0)) = true then some (((-1 : Int), ()), ()) else (Af2.F (a_4, r7.1.1, ())).bind fun r8 => if (decide (r8.1.1 < 0)) = true then some (((-1 : Int), ()), ()) else some ((r8.1.1, ()), ())
theorem eq (a_1 : LL) (a_2 : Int) (a_3 : LI) (a_4 : LM) (left_5 : Int) : F ((a_1, (a_2, (a_3, a_4))), left_5, ()) = T a_1 a_2 a_3 a_4 left_5 := eq_any fun k => by kernel_rfl
theorem S : a3x prog ⟨24, sig, F⟩ := sound_k (res := [.tmp 4]) func24 (cok (cM ⟨Af2.S, cM ⟨Af0.S, cM ⟨Ac9.S, nM⟩⟩⟩))
end Aj2
namespace Ab6
noncomputable def sig : Sig := ⟨[pL], [oL]⟩
noncomputable def cfg : Cfg := cl (cx []) fun id => match id with | 3 => ([0, 3, 4], [12]) | _ => ([], [])
noncomputable def fin := finK cfg.c sig [.tmp 2]
noncomputable def F (d : LI × Unit) : OL := anyK (a9q cfg fin (bd f29) (a5e sig.ps d 22))
variable (k : Nat) (x2 : LI) (i3 : Int) (x4 : LI)
noncomputable def l3 : OL := Vm.runT cfg fin k [.inLoop (sub [1, 1, 0, 1, 0, 0] (bd f29)), .inBlock 0, .code (sub [1, 1, 1] (bd f29))] ⟨[vL x2, dD, dD, .view 12 (.root 0) 1 false, vI i3] ++ a8I 17, [(12, ⟨false, [dL x4]⟩)]⟩
theorem l3_eq : l3 (k + 1) x2 i3 x4 = if (decide (i3 < (x2.length : Int))) = true then if 0 ≤ i3 ∧ i3 < (x2.length : Int) then if 0 ≤ i3 ∧ i3 < (x4.length : Int) then l3 k x2 (IntKind.i64.wrap (i3 + 1)) (x4.set i3.toNat (x2.getD i3.toNat 0 : Int)) else none else none else some ((x4, ()), ()) := by kernel_rfl
variable (a_1 : LI)
noncomputable def T : OL := if 0 ≤ (a_1.length : Int) ∧ (a_1.length : Int) ≤ (bigN : Int) then l3 k a_1 (0 : Int) (List.replicate (a_1.length : Int).toNat (0 : Int)) else none
theorem of {r} (h : Ev (fun k => T k a_1) r) : F (a_1, ()) = some r := Ev.run (fun k => by kernel_rfl) h
theorem S : a3x prog ⟨29, sig, F⟩ := sound_k (res := [.tmp 2]) func29 (cok nM)
end Ab6
namespace Ak9
noncomputable def sig : Sig := ⟨[pM], [oM]⟩
noncomputable def cfg : Cfg := cf (cx [⟨29, Ab6.sig, Ab6.F⟩])
noncomputable def fin := finK cfg.c sig [.cell 2 87]
noncomputable def F (d : MX × Unit) : OM := anyK (a9q cfg fin (bd f76) (a5e sig.ps d 18))
variable (a_1 a_2 a_3 : Int) (a_4 : LI)
noncomputable def T : OM := (Ab6.F (a_4, ())).bind fun r5 => some (((a_1, (a_2, (a_3, r5.1.1))), ()), ())
theorem eq : F ((a_1, (a_2, (a_3, a_4))), ()) = T a_1 a_2 a_3 a_4 := eq_any fun k => by kernel_rfl
theorem S : a3x prog ⟨76, sig, F⟩ := sound_k (res := [.cell 2 87]) func76 (cok (cM ⟨Ab6.S, nM⟩))
end Ak9
namespace Ah2
noncomputable def sig : Sig := ⟨[.val false (.sl TMatrix)], [(.val false, (.sl TMatrix), .deep)]⟩
noncomputable def cfg : Cfg := cl (cx [⟨76, Ak9.sig, Ak9.F⟩]) fun id => match id with | 3 => ([0, 3, 4], [12]) | _ => ([], [])
noncomputable def fin := finK cfg.c sig [.tmp 2]
noncomputable def F (d : LM × Unit) : Option ((LM × Unit) × (Unit)) := anyK (a9q cfg fin (bd f28) (a5e sig.ps d 23))
variable (k : Nat) (x2 : LM) (i3 : Int) (x4 : LM)
noncomputable def l3 : Option ((LM × Unit) × (Unit)) := Vm.runT cfg fin k [.inLoop (sub [1, 1, 0, 1, 0, 0] (bd f28)), .inBlock 0, .code (sub [1, 1, 1] (bd f28))] ⟨[.val false [⟨(.sl TMatrix), .sh, x2⟩], dD, dD, .view 12 (.root 0) 1 false, vI i3] ++ a8I 18, [(12, ⟨false, [⟨(.sl TMatrix), .deep, x4⟩]⟩)]⟩
theorem l3_eq : l3 (k + 1) x2 i3 x4 = if (decide (i3 < (x2.length : Int))) = true then if 0 ≤ i3 ∧ i3 < (x2.length : Int) then (Ak9.F (x2.getD i3.toNat (0, 0, 0, ([] : LI)), ())).bind fun r5 => if 0 ≤ i3 ∧ i3 < (x4.length : Int) then l3 k x2 (IntKind.i64.wrap (i3 + 1)) (x4.set i3.toNat r5.1.1) else none else none else some ((x4, ()), ()) := by kernel_rfl
variable (a_1 : LM)
noncomputable def T : Option ((LM × Unit) × (Unit)) := if 0 ≤ (a_1.length : Int) ∧ (a_1.length : Int) ≤ (bigN : Int) then l3 k a_1 (0 : Int) (List.replicate (a_1.length : Int).toNat (0, 0, 0, ([] : LI))) else none
theorem of {r} (h : Ev (fun k => T k a_1) r) : F (a_1, ()) = some r := Ev.run (fun k => by kernel_rfl) h
theorem S : a3x prog ⟨28, sig, F⟩ := sound_k (res := [.tmp 2]) func28 (cok (cM ⟨Ak9.S, nM⟩))
end Ah2
namespace Ah1
noncomputable def sig : Sig := ⟨[pQ], [oQ]⟩
noncomputable def cfg : Cfg := cl (cx [⟨29, Ab6.sig, Ab6.F⟩]) fun id => match id with | 3 => ([0, 3, 4], [12]) | _ => ([], [])
noncomputable def fin := finK cfg.c sig [.tmp 2]
noncomputable def F (d : LL × Unit) : OQ := anyK (a9q cfg fin (bd f86) (a5e sig.ps d 23))
variable (k : Nat) (x2 : LL) (i3 : Int) (x4 : LL)
noncomputable def l3 : OQ := Vm.runT cfg fin k [.inLoop (sub [1, 1, 0, 1, 0, 0] (bd f86)), .inBlock 0, .code (sub [1, 1, 1] (bd f86))] ⟨[vQ x2, dD, dD, .view 12 (.root 0) 1 false, vI i3] ++ a8I 18, [(12, ⟨false, [dQ x4]⟩)]⟩
theorem l3_eq : l3 (k + 1) x2 i3 x4 = if (decide (i3 < (x2.length : Int))) = true then if 0 ≤ i3 ∧ i3 < (x2.length : Int) then (Ab6.F (x2.getD i3.toNat ([] : LI), ())).bind fun r5 => if 0 ≤ i3 ∧ i3 < (x4.length : Int) then l3 k x2 (IntKind.i64.wrap (i3 + 1)) (x4.set i3.toNat r5.1.1) else none else none else some ((x4, ()), ()) := by kernel_rfl
variable (a_1 : LL)
noncomputable def T : OQ := if 0 ≤ (a_1.length : Int) ∧ (a_1.length : Int) ≤ (bigN : Int) then l3 k a_1 (0 : Int) (List.replicate (a_1.length : Int).toNat ([] : LI)) else none
theorem of {r} (h : Ev (fun k => T k a_1) r) : F (a_1, ()) = some r := Ev.run (fun k => by kernel_rfl) h
theorem S : a3x prog ⟨86, sig, F⟩ := sound_k (res := [.tmp 2]) func86 (cok (cM ⟨Ab6.S, nM⟩))
end Ah1
namespace Ad3
noncomputable def sig : Sig := ⟨[pC], [oC]⟩
noncomputable def cfg : Cfg := cf (cx [⟨86, Ah1.sig, Ah1.F⟩])
noncomputable def fin := finK cfg.c sig [.cell 2 32]
noncomputable def F (d : LL × Unit) : OQ := anyK (a9q cfg fin (bd f37) (a5e sig.ps d 9))
variable (a_1 : LL)
noncomputable def T : OQ := (Ah1.F (a_1, ())).bind fun r2 => some ((r2.1.1, ()), ())
theorem eq : F (a_1, ()) = T a_1 := eq_any fun k => by kernel_rfl
theorem S : a3x prog ⟨37, sig, F⟩ := sound_k (res := [.cell 2 32]) func37 (cok (cM ⟨Ah1.S, nM⟩))
end Ad3
namespace Ag4
noncomputable def sig : Sig := ⟨[pS], [oS]⟩
noncomputable def cfg : Cfg := cf (cx [⟨28, Ah2.sig, Ah2.F⟩, ⟨29, Ab6.sig, Ab6.F⟩, ⟨37, Ad3.sig, Ad3.F⟩])
noncomputable def fin := finK cfg.c sig [.cell 2 46]
noncomputable def F (d : SF × Unit) : OS := anyK (a9q cfg fin (bd f27) (a5e sig.ps d 20))
variable (a_1 : LL) (a_2 : Int) (a_3 : LI) (a_4 : LM)
noncomputable def T : OS := (Ad3.F (a_1, ())).bind fun r5 => (Ab6.F (a_3, ())).bind fun r6 => (Ah2.F (a_4, ())).bind fun r7 => some (((r5.1.1, (a_2, (r6.1.1, r7.1.1))), ()), ())
theorem eq : F ((a_1, (a_2, (a_3, a_4))), ()) = T a_1 a_2 a_3 a_4 := eq_any fun k => by kernel_rfl
theorem S : a3x prog ⟨27, sig, F⟩ := sound_k (res := [.cell 2 46]) func27 (cok (cM ⟨Ah2.S, cM ⟨Ab6.S, cM ⟨Ad3.S, nM⟩⟩⟩))
end Ag4
namespace Ab2
noncomputable def sig : Sig := ⟨[pL, pL], [oB]⟩
noncomputable def cfg : Cfg := cl (cx []) fun id => match id with | 4 => ([0, 1, 5], []) | _ => ([], [])
noncomputable def fin := finK cfg.c sig [.tmp 4]
noncomputable def F (d : LI × LI × Unit) : OB := anyK (a9q cfg fin (bd f19) (a5e sig.ps d 26))
variable (k : Nat) (x3 x4 : LI) (i5 : Int)
noncomputable def l4 : OB := Vm.runT cfg fin k [.inLoop (sub [1, 1, 0, 1, 0, 0] (bd f19)), .inBlock 0, .code (sub [1, 1, 1] (bd f19))] ⟨[vL x3, vL x4, dD, dD, dD, vI i5] ++ a8I 20, []⟩
theorem l4_eq : l4 (k + 1) x3 x4 i5 = if (decide (i5 < (x3.length : Int))) = true then if 0 ≤ i5 ∧ i5 < (x3.length : Int) then if 0 ≤ i5 ∧ i5 < (x4.length : Int) then if ((x3.getD i5.toNat 0 : Int) != (x4.getD i5.toNat 0 : Int)) = true then some ((false, ()), ()) else l4 k x3 x4 (IntKind.i64.wrap (i5 + 1)) else none else none else some ((true, ()), ()) := by kernel_rfl
variable (a_1 b_2 : LI)
noncomputable def T : OB := if ((a_1.length : Int) != (b_2.length : Int)) = true then some ((false, ()), ()) else l4 k a_1 b_2 (0 : Int)
theorem of {r} (h : Ev (fun k => T k a_1 b_2) r) : F (a_1, b_2, ()) = some r := Ev.run (fun k => by kernel_rfl) h
theorem S : a3x prog ⟨19, sig, F⟩ := sound_k (res := [.tmp 4]) func19 (cok nM)
end Ab2
namespace Ak7
noncomputable def sig : Sig := ⟨[pM, pM], [oB]⟩
noncomputable def cfg : Cfg := cf (cx [⟨19, Ab2.sig, Ab2.F⟩])
noncomputable def fin := finK cfg.c sig [.tmp 4]
noncomputable def F (d : MX × MX × Unit) : OB := anyK (a9q cfg fin (bd f82) (a5e sig.ps d 26))
variable (a_1 a_2 a_3 : Int) (a_4 : LI) (b_5 b_6 b_7 : Int) (b_8 : LI)
noncomputable def T : OB := if (a_1 != b_5) = true then some ((false, ()), ()) else if (a_2 != b_6) = true then some ((false, ()), ()) else if (a_3 != b_7) = true then some ((false, ()), ()) else (Ab2.F (a_4, b_8, ())).bind fun r9 => if (!r9.1.1) = true then some ((false, ()), ()) else some ((true, ()), ())
theorem eq : F ((a_1, (a_2, (a_3, a_4))), (b_5, (b_6, (b_7, b_8))), ()) = T a_1 a_2 a_3 a_4 b_5 b_6 b_7 b_8 := eq_any fun k => by kernel_rfl
theorem S : a3x prog ⟨82, sig, F⟩ := sound_k (res := [.tmp 4]) func82 (cok (cM ⟨Ab2.S, nM⟩))
end Ak7
namespace Ae9
noncomputable def sig : Sig := ⟨[.val false (.sl TMatrix), .val false (.sl TMatrix)], [oB]⟩
noncomputable def cfg : Cfg := cl (cx [⟨82, Ak7.sig, Ak7.F⟩]) fun id => match id with | 4 => ([0, 1, 5], []) | _ => ([], [])
noncomputable def fin := finK cfg.c sig [.tmp 4]
noncomputable def F (d : LM × LM × Unit) : OB := anyK (a9q cfg fin (bd f32) (a5e sig.ps d 27))
variable (k : Nat) (x3 x4 : LM) (i5 : Int)
noncomputable def l4 : OB := Vm.runT cfg fin k [.inLoop (sub [1, 1, 0, 1, 0, 0] (bd f32)), .inBlock 0, .code (sub [1, 1, 1] (bd f32))] ⟨[.val false [⟨(.sl TMatrix), .sh, x3⟩], .val false [⟨(.sl TMatrix), .sh, x4⟩], dD, dD, dD, vI i5] ++ a8I 21, []⟩
theorem l4_eq : l4 (k + 1) x3 x4 i5 = if (decide (i5 < (x3.length : Int))) = true then if 0 ≤ i5 ∧ i5 < (x3.length : Int) then if 0 ≤ i5 ∧ i5 < (x4.length : Int) then (Ak7.F (x3.getD i5.toNat (0, 0, 0, ([] : LI)), x4.getD i5.toNat (0, 0, 0, ([] : LI)), ())).bind fun r6 => if (!r6.1.1) = true then some ((false, ()), ()) else l4 k x3 x4 (IntKind.i64.wrap (i5 + 1)) else none else none else some ((true, ()), ()) := by kernel_rfl
variable (a_1 b_2 : LM)
noncomputable def T : OB := if ((a_1.length : Int) != (b_2.length : Int)) = true then some ((false, ()), ()) else l4 k a_1 b_2 (0 : Int)
theorem of {r} (h : Ev (fun k => T k a_1 b_2) r) : F (a_1, b_2, ()) = some r := Ev.run (fun k => by kernel_rfl) h
theorem S : a3x prog ⟨32, sig, F⟩ := sound_k (res := [.tmp 4]) func32 (cok (cM ⟨Ak7.S, nM⟩))
end Ae9
namespace Ae8
noncomputable def sig : Sig := ⟨[pQ, pQ], [oB]⟩
noncomputable def cfg : Cfg := cl (cx [⟨19, Ab2.sig, Ab2.F⟩]) fun id => match id with | 4 => ([0, 1, 5], []) | _ => ([], [])
noncomputable def fin := finK cfg.c sig [.tmp 4]
noncomputable def F (d : LL × LL × Unit) : OB := anyK (a9q cfg fin (bd f89) (a5e sig.ps d 27))
variable (k : Nat) (x3 x4 : LL) (i5 : Int)
noncomputable def l4 : OB := Vm.runT cfg fin k [.inLoop (sub [1, 1, 0, 1, 0, 0] (bd f89)), .inBlock 0, .code (sub [1, 1, 1] (bd f89))] ⟨[vQ x3, vQ x4, dD, dD, dD, vI i5] ++ a8I 21, []⟩
theorem l4_eq : l4 (k + 1) x3 x4 i5 = if (decide (i5 < (x3.length : Int))) = true then if 0 ≤ i5 ∧ i5 < (x3.length : Int) then if 0 ≤ i5 ∧ i5 < (x4.length : Int) then (Ab2.F (x3.getD i5.toNat ([] : LI), x4.getD i5.toNat ([] : LI), ())).bind fun r6 => if (!r6.1.1) = true then some ((false, ()), ()) else l4 k x3 x4 (IntKind.i64.wrap (i5 + 1)) else none else none else some ((true, ()), ()) := by kernel_rfl
variable (a_1 b_2 : LL)
noncomputable def T : OB := if ((a_1.length : Int) != (b_2.length : Int)) = true then some ((false, ()), ()) else l4 k a_1 b_2 (0 : Int)
theorem of {r} (h : Ev (fun k => T k a_1 b_2) r) : F (a_1, b_2, ()) = some r := Ev.run (fun k => by kernel_rfl) h
theorem S : a3x prog ⟨89, sig, F⟩ := sound_k (res := [.tmp 4]) func89 (cok (cM ⟨Ab2.S, nM⟩))
end Ae8
namespace Ae7
noncomputable def sig : Sig := ⟨[pC, pC], [oB]⟩
noncomputable def cfg : Cfg := cf (cx [⟨89, Ae8.sig, Ae8.F⟩])
noncomputable def fin := finK cfg.c sig [.tmp 4]
noncomputable def F (d : LL × LL × Unit) : OB := anyK (a9q cfg fin (bd f39) (a5e sig.ps d 11))
variable (a_1 b_2 : LL)
noncomputable def T : OB := (Ae8.F (a_1, b_2, ())).bind fun r3 => if (!r3.1.1) = true then some ((false, ()), ()) else some ((true, ()), ())
theorem eq : F (a_1, b_2, ()) = T a_1 b_2 := eq_any fun k => by kernel_rfl
theorem S : a3x prog ⟨39, sig, F⟩ := sound_k (res := [.tmp 4]) func39 (cok (cM ⟨Ae8.S, nM⟩))
end Ae7
namespace Ag1
noncomputable def sig : Sig := ⟨[pS, pS], [oB]⟩
noncomputable def cfg : Cfg := cf (cx [⟨19, Ab2.sig, Ab2.F⟩, ⟨32, Ae9.sig, Ae9.F⟩, ⟨39, Ae7.sig, Ae7.F⟩])
noncomputable def fin := finK cfg.c sig [.tmp 4]
noncomputable def F (d : SF × SF × Unit) : OB := anyK (a9q cfg fin (bd f31) (a5e sig.ps d 28))
variable (a_1 : LL) (a_2 : Int) (a_3 : LI) (a_4 : LM) (b_5 : LL) (b_6 : Int) (b_7 : LI) (b_8 : LM)
noncomputable def T : OB := (Ae7.F (a_1, b_5, ())).bind fun r9 => if (!r9.1.1) = true then some ((false, ()), ()) else if (a_2 != b_6) = true then some ((false, ()), ()) else (Ab2.F (a_3, b_7, ())).bind fun r10 => if (!r10.1.1) = true then some ((false, ()), ()) else (Ae9.F (a_4, b_8, ())).bind fun r11 => if (!r11.1.1) = true then some ((false, ()), ()) else some ((true, ()), ())
theorem eq : F ((a_1, (a_2, (a_3, a_4))), (b_5, (b_6, (b_7, b_8))), ()) = T a_1 a_2 a_3 a_4 b_5 b_6 b_7 b_8 := eq_any fun k => by kernel_rfl
theorem S : a3x prog ⟨31, sig, F⟩ := sound_k (res := [.tmp 4]) func31 (cok (cM ⟨Ab2.S, cM ⟨Ae9.S, cM ⟨Ae7.S, nM⟩⟩⟩))
end Ag1
namespace Ab5
noncomputable def sig : Sig := ⟨[.wr false tL .deep, pI], [oI]⟩
noncomputable def cfg : Cfg := ⟨cx [], [0], [], fun id => match id with | 2 => ([0, 1, 5], [0]) | _ => ([], []), fun _ => []⟩
noncomputable def fin := finK cfg.c sig [.tmp 4]
noncomputable def F (d : LI × Int × Unit) : Option ((Int × Unit) × (LI × Unit)) := anyK (a9q cfg fin (bd f22) (a5e sig.ps d 19))
variable (k : Nat) (i3 i4 : Int) (x5 : LI)
noncomputable def l2 : Option ((Int × Unit) × (LI × Unit)) := Vm.runT cfg fin k [.inLoop (sub [1, 0, 1, 0, 0] (bd f22)), .inBlock 0, .code (sub [1, 1] (bd f22))] ⟨[.view 0 (.root 0) 1 false, vI i3, dD, dD, dD, vI i4] ++ a8I 13, [(0, ⟨false, [dL x5]⟩)]⟩
theorem l2_eq : l2 (k + 1) i3 i4 x5 = if (decide (i4 < (x5.length : Int))) = true then if 0 ≤ i4 ∧ i4 < (x5.length : Int) then l2 k (IntKind.i64.wrap (i3 + 1)) (IntKind.i64.wrap (i4 + 1)) (x5.set i4.toNat i3) else none else some ((i3, ()), (x5, ())) := by kernel_rfl
variable (a_1 : LI) (k_2 : Int)
noncomputable def T : Option ((Int × Unit) × (LI × Unit)) := l2 k k_2 (0 : Int) a_1
theorem of {r} (h : Ev (fun k => T k a_1 k_2) r) : F (a_1, k_2, ()) = some r := Ev.run (fun k => by kernel_rfl) h
theorem S : a3x prog ⟨22, sig, F⟩ := sound_k (res := [.tmp 4]) func22 (cok nM)
end Ab5
namespace Ah0
noncomputable def sig : Sig := ⟨[.wr false (.sl TMatrix) .deep, pI], [oI]⟩
noncomputable def cfg : Cfg := ⟨cx [⟨22, Ab5.sig, Ab5.F⟩], [0], [], fun id => match id with | 2 => ([0, 1, 5], [0]) | _ => ([], []), fun _ => []⟩
noncomputable def fin := finK cfg.c sig [.tmp 4]
noncomputable def F (d : LM × Int × Unit) : Option ((Int × Unit) × (LM × Unit)) := anyK (a9q cfg fin (bd f34) (a5e sig.ps d 41))
variable (k : Nat) (i3 i4 : Int) (x5 : LM)
noncomputable def l2 : Option ((Int × Unit) × (LM × Unit)) := Vm.runT cfg fin k [.inLoop (sub [1, 0, 1, 0, 0] (bd f34)), .inBlock 0, .code (sub [1, 1] (bd f34))] ⟨[.view 0 (.root 0) 1 false, vI i3, dD, dD, dD, vI i4] ++ a8I 35, [(0, ⟨false, [⟨(.sl TMatrix), .deep, x5⟩]⟩)]⟩
theorem l2_eq : l2 (k + 1) i3 i4 x5 = if (decide (i4 < (x5.length : Int))) = true then if 0 ≤ i4 ∧ i4 < (x5.length : Int) then if 0 ≤ i4 ∧ i4 < ((x5.set i4.toNat (i3, (x5.getD i4.toNat (0, 0, 0, ([] : LI))).2)).length : Int) then let y6 : LM := (x5.set i4.toNat (i3, (x5.getD i4.toNat (0, 0, 0, ([] : LI))).2)).set i4.toNat (((x5.set i4.toNat (i3, (x5.getD i4.toNat (0, 0, 0, ([] : LI))).2)).getD i4.toNat (0, 0, 0, ([] : LI))).1, (IntKind.i64.wrap (i3 + 1), (((x5.set i4.toNat (i3, (x5.getD i4.toNat (0, 0, 0, ([] : LI))).2)).getD i4.toNat (0, 0, 0, ([] : LI))).2).2)); if 0 ≤ i4 ∧ i4 < (y6.length : Int) then let y7 : LM := y6.set i4.toNat ((y6.getD i4.toNat (0, 0, 0, ([] : LI))).1, (((y6.getD i4.toNat (0, 0, 0, ([] : LI))).2).1, (IntKind.i64.wrap ((IntKind.i64.wrap (i3 + 1)) + 1), (((y6.getD i4.toNat (0, 0, 0, ([] : LI))).2).2).2))); if 0 ≤ i4 ∧ i4 < (y7.length : Int) then (Ab5.F ((((y7.getD i4.toNat (0, 0, 0, ([] : LI))).2).2).2, IntKind.i64.wrap ((IntKind.i64.wrap ((IntKind.i64.wrap (i3 + 1)) + 1)) + 1), ())).bind fun r8 => l2 k r8.1.1 (IntKind.i64.wrap (i4 + 1)) (y7.set i4.toNat ((y7.getD i4.toNat (0, 0, 0, ([] : LI))).1, (((y7.getD i4.toNat (0, 0, 0, ([] : LI))).2).1, ((((y7.getD i4.toNat (0, 0, 0, ([] : LI))).2).2).1, r8.2.1)))) else none else none else none else none else some ((i3, ()), (x5, ())) := by kernel_rfl
variable (a_1 : LM) (k_2 : Int)
noncomputable def T : Option ((Int × Unit) × (LM × Unit)) := l2 k k_2 (0 : Int) a_1
theorem of {r} (h : Ev (fun k => T k a_1 k_2) r) : F (a_1, k_2, ()) = some r := Ev.run (fun k => by kernel_rfl) h
theorem S : a3x prog ⟨34, sig, F⟩ := sound_k (res := [.tmp 4]) func34 (cok (cM ⟨Ab5.S, nM⟩))
end Ah0
namespace Ag2
noncomputable def sig : Sig := ⟨[.wr false tQ .deep, pI], [oI]⟩
noncomputable def cfg : Cfg := ⟨cx [⟨22, Ab5.sig, Ab5.F⟩], [0], [], fun id => match id with | 2 => ([0, 1, 5], [0]) | _ => ([], []), fun _ => []⟩
noncomputable def fin := finK cfg.c sig [.tmp 4]
noncomputable def F (d : LL × Int × Unit) : Option ((Int × Unit) × (LL × Unit)) := anyK (a9q cfg fin (bd f90) (a5e sig.ps d 19))
variable (k : Nat) (i3 i4 : Int) (x5 : LL)
noncomputable def l2 : Option ((Int × Unit) × (LL × Unit)) := Vm.runT cfg fin k [.inLoop (sub [1, 0, 1, 0, 0] (bd f90)), .inBlock 0, .code (sub [1, 1] (bd f90))] ⟨[.view 0 (.root 0) 1 false, vI i3, dD, dD, dD, vI i4] ++ a8I 13, [(0, ⟨false, [dQ x5]⟩)]⟩
theorem l2_eq : l2 (k + 1) i3 i4 x5 = if (decide (i4 < (x5.length : Int))) = true then if 0 ≤ i4 ∧ i4 < (x5.length : Int) then (Ab5.F (x5.getD i4.toNat ([] : LI), i3, ())).bind fun r6 => l2 k r6.1.1 (IntKind.i64.wrap (i4 + 1)) (x5.set i4.toNat r6.2.1) else none else some ((i3, ()), (x5, ())) := by kernel_rfl
variable (a_1 : LL) (k_2 : Int)
noncomputable def T : Option ((Int × Unit) × (LL × Unit)) := l2 k k_2 (0 : Int) a_1
theorem of {r} (h : Ev (fun k => T k a_1 k_2) r) : F (a_1, k_2, ()) = some r := Ev.run (fun k => by kernel_rfl) h
theorem S : a3x prog ⟨90, sig, F⟩ := sound_k (res := [.tmp 4]) func90 (cok (cM ⟨Ab5.S, nM⟩))
end Ag2
namespace Ac1
noncomputable def sig : Sig := ⟨[.wr true tQ .deep, pI], [oI]⟩
noncomputable def cfg : Cfg := ⟨cx [⟨90, Ag2.sig, Ag2.F⟩], [0], [], fun _ => ([], []), fun _ => []⟩
noncomputable def fin := finK cfg.c sig [.tmp 4]
noncomputable def F (d : LL × Int × Unit) : Option ((Int × Unit) × (LL × Unit)) := anyK (a9q cfg fin (bd f40) (a5e sig.ps d 10))
variable (a_1 : LL) (k_2 : Int)
noncomputable def T : Option ((Int × Unit) × (LL × Unit)) := (Ag2.F (a_1, k_2, ())).bind fun r3 => some ((r3.1.1, ()), (r3.2.1, ()))
theorem eq : F (a_1, k_2, ()) = T a_1 k_2 := eq_any fun k => by kernel_rfl
theorem S : a3x prog ⟨40, sig, F⟩ := sound_k (res := [.tmp 4]) func40 (cok (cM ⟨Ag2.S, nM⟩))
end Ac1
namespace Ag3
noncomputable def sig : Sig := ⟨[.wr true TSheaf .deep, pI], [oI]⟩
noncomputable def cfg : Cfg := ⟨cx [⟨22, Ab5.sig, Ab5.F⟩, ⟨34, Ah0.sig, Ah0.F⟩, ⟨40, Ac1.sig, Ac1.F⟩], [0], [], fun _ => ([], []), fun _ => []⟩
noncomputable def fin := finK cfg.c sig [.tmp 4]
noncomputable def F (d : SF × Int × Unit) : Option ((Int × Unit) × (SF × Unit)) := anyK (a9q cfg fin (bd f33) (a5e sig.ps d 18))
variable (a_1 : LL) (a_2 : Int) (a_3 : LI) (a_4 : LM) (k_5 : Int)
noncomputable def T : Option ((Int × Unit) × (SF × Unit)) := (Ac1.F (a_1, k_5, ())).bind fun r6 => (Ab5.F (a_3, r6.1.1, ())).bind fun r7 => (Ah0.F (a_4, r7.1.1, ())).bind fun r8 => some ((r8.1.1, ()), ((r6.2.1, (a_2, (r7.2.1, r8.2.1))), ()))
theorem eq : F ((a_1, (a_2, (a_3, a_4))), k_5, ()) = T a_1 a_2 a_3 a_4 k_5 := eq_any fun k => by kernel_rfl
theorem S : a3x prog ⟨33, sig, F⟩ := sound_k (res := [.tmp 4]) func33 (cok (cM ⟨Ab5.S, cM ⟨Ah0.S, cM ⟨Ac1.S, nM⟩⟩⟩))
end Ag3
namespace Ac0
noncomputable def sig : Sig := ⟨[pL, pI], [oI]⟩
noncomputable def cfg : Cfg := cl (cx []) fun id => match id with | 2 => ([0, 1, 5], []) | _ => ([], [])
noncomputable def fin := finK cfg.c sig [.tmp 4]
noncomputable def F (d : LI × Int × Unit) : OI := anyK (a9q cfg fin (bd f23) (a5e sig.ps d 21))
variable (k : Nat) (x3 : LI) (i4 i5 : Int)
noncomputable def l2 : OI := Vm.runT cfg fin k [.inLoop (sub [1, 0, 1, 0, 0] (bd f23)), .inBlock 0, .code (sub [1, 1] (bd f23))] ⟨[vL x3, vI i4, dD, dD, dD, vI i5] ++ a8I 15, []⟩
theorem l2_eq : l2 (k + 1) x3 i4 i5 = if (decide (i5 < (x3.length : Int))) = true then if 0 ≤ i5 ∧ i5 < (x3.length : Int) then if ((x3.getD i5.toNat 0 : Int) != i4) = true then some (((-1 : Int), ()), ()) else l2 k x3 (IntKind.i64.wrap (i4 + 1)) (IntKind.i64.wrap (i5 + 1)) else none else some ((i4, ()), ()) := by kernel_rfl
variable (a_1 : LI) (k_2 : Int)
noncomputable def T : OI := l2 k a_1 k_2 (0 : Int)
theorem of {r} (h : Ev (fun k => T k a_1 k_2) r) : F (a_1, k_2, ()) = some r := Ev.run (fun k => by kernel_rfl) h
theorem S : a3x prog ⟨23, sig, F⟩ := sound_k (res := [.tmp 4]) func23 (cok nM)
end Ac0
namespace Ai1
noncomputable def sig : Sig := ⟨[pQ, pI], [oI]⟩
noncomputable def cfg : Cfg := cl (cx [⟨23, Ac0.sig, Ac0.F⟩]) fun id => match id with | 2 => ([0, 1, 5], []) | _ => ([], [])
noncomputable def fin := finK cfg.c sig [.tmp 4]
noncomputable def F (d : LL × Int × Unit) : OI := anyK (a9q cfg fin (bd f97) (a5e sig.ps d 21))
variable (k : Nat) (x3 : LL) (i4 i5 : Int)
noncomputable def l2 : OI := Vm.runT cfg fin k [.inLoop (sub [1, 0, 1, 0, 0] (bd f97)), .inBlock 0, .code (sub [1, 1] (bd f97))] ⟨[vQ x3, vI i4, dD, dD, dD, vI i5] ++ a8I 15, []⟩
theorem l2_eq : l2 (k + 1) x3 i4 i5 = if (decide (i5 < (x3.length : Int))) = true then if 0 ≤ i5 ∧ i5 < (x3.length : Int) then (Ac0.F (x3.getD i5.toNat ([] : LI), i4, ())).bind fun r6 => if (decide (r6.1.1 < 0)) = true then some (((-1 : Int), ()), ()) else l2 k x3 r6.1.1 (IntKind.i64.wrap (i5 + 1)) else none else some ((i4, ()), ()) := by kernel_rfl
variable (a_1 : LL) (k_2 : Int)
noncomputable def T : OI := l2 k a_1 k_2 (0 : Int)
theorem of {r} (h : Ev (fun k => T k a_1 k_2) r) : F (a_1, k_2, ()) = some r := Ev.run (fun k => by kernel_rfl) h
theorem S : a3x prog ⟨97, sig, F⟩ := sound_k (res := [.tmp 4]) func97 (cok (cM ⟨Ac0.S, nM⟩))
end Ai1
namespace Al5
noncomputable def sig : Sig := ⟨[pC, pI], [oI]⟩
noncomputable def cfg : Cfg := cf (cx [⟨97, Ai1.sig, Ai1.F⟩])
noncomputable def fin := finK cfg.c sig [.tmp 4]
noncomputable def F (d : LL × Int × Unit) : OI := anyK (a9q cfg fin (bd f44) (a5e sig.ps d 12))
variable (a_1 : LL) (k_2 : Int)
noncomputable def T : OI := (Ai1.F (a_1, k_2, ())).bind fun r3 => if (decide (r3.1.1 < 0)) = true then some (((-1 : Int), ()), ()) else some ((r3.1.1, ()), ())
theorem eq : F (a_1, k_2, ()) = T a_1 k_2 := eq_any fun k => by kernel_rfl
theorem S : a3x prog ⟨44, sig, F⟩ := sound_k (res := [.tmp 4]) func44 (cok (cM ⟨Ai1.S, nM⟩))
end Al5
namespace Ai2
noncomputable def sig : Sig := ⟨[.val false (.sl TMatrix), pI], [oI]⟩
noncomputable def cfg : Cfg := cl (cx [⟨23, Ac0.sig, Ac0.F⟩]) fun id => match id with | 2 => ([0, 1, 5], []) | _ => ([], [])
noncomputable def fin := finK cfg.c sig [.tmp 4]
noncomputable def F (d : LM × Int × Unit) : OI := anyK (a9q cfg fin (bd f91) (a5e sig.ps d 49))
variable (k : Nat) (x3 : LM) (i4 i5 : Int)
noncomputable def l2 : OI := Vm.runT cfg fin k [.inLoop (sub [1, 0, 1, 0, 0] (bd f91)), .inBlock 0, .code (sub [1, 1] (bd f91))] ⟨[.val false [⟨(.sl TMatrix), .sh, x3⟩], vI i4, dD, dD, dD, vI i5] ++ a8I 43, []⟩
theorem l2_eq : l2 (k + 1) x3 i4 i5 = if (decide (i5 < (x3.length : Int))) = true then if 0 ≤ i5 ∧ i5 < (x3.length : Int) then if (((x3.getD i5.toNat (0, 0, 0, ([] : LI))).1) != i4) = true then some (((-1 : Int), ()), ()) else if 0 ≤ i5 ∧ i5 < (x3.length : Int) then if ((((x3.getD i5.toNat (0, 0, 0, ([] : LI))).2).1) != (IntKind.i64.wrap (i4 + 1))) = true then some (((-1 : Int), ()), ()) else if 0 ≤ i5 ∧ i5 < (x3.length : Int) then if (((((x3.getD i5.toNat (0, 0, 0, ([] : LI))).2).2).1) != (IntKind.i64.wrap ((IntKind.i64.wrap (i4 + 1)) + 1))) = true then some (((-1 : Int), ()), ()) else if 0 ≤ i5 ∧ i5 < (x3.length : Int) then (Ac0.F ((((x3.getD i5.toNat (0, 0, 0, ([] : LI))).2).2).2, IntKind.i64.wrap ((IntKind.i64.wrap ((IntKind.i64.wrap (i4 + 1)) + 1)) + 1), ())).bind fun r6 => if (decide (r6.1.1 < 0)) = true then some (((-1 : Int), ()), ()) else l2 k x3 r6.1.1 (IntKind.i64.wrap (i5 + 1)) else none else none else none else none else some ((i4, ()), ()) := by kernel_rfl
variable (a_1 : LM) (k_2 : Int)
noncomputable def T : OI := l2 k a_1 k_2 (0 : Int)
theorem of {r} (h : Ev (fun k => T k a_1 k_2) r) : F (a_1, k_2, ()) = some r := Ev.run (fun k => by kernel_rfl) h
theorem S : a3x prog ⟨91, sig, F⟩ := sound_k (res := [.tmp 4]) func91 (cok (cM ⟨Ac0.S, nM⟩))
end Ai2
namespace Al6
noncomputable def sig : Sig := ⟨[pS, pI], [oI]⟩
noncomputable def cfg : Cfg := cf (cx [⟨23, Ac0.sig, Ac0.F⟩, ⟨44, Al5.sig, Al5.F⟩, ⟨91, Ai2.sig, Ai2.F⟩])
noncomputable def fin := finK cfg.c sig [.tmp 4]
noncomputable def F (d : SF × Int × Unit) : OI := anyK (a9q cfg fin (bd f49) (a5e sig.ps d 24))
noncomputable def T (a_1 : LL) (a_2 : Int) (a_3 : LI) (a_4 : LM) (k_5 : Int) : OI := (Al5.F (a_1, k_5, ())).bind fun r6 => if (decide (r6.1.1 < 0)) = true then some (((-1 : Int), ()), ()) else (Ac0.F (a_3, r6.1.1, ())).bind fun r7 => if (decide (r7.1.1 < 0)) = true then some (((-1 : Int), ()), ()) else (Ai2.F (a_4, r7.1.1, ())).bind fun r8 => if (decide (r8.1.1 < 0)) = true then some (((-1 : Int), ()), ()) else some ((r8.1.1, ()), ())
theorem eq (a_1 : LL) (a_2 : Int) (a_3 : LI) (a_4 : LM) (k_5 : Int) : F ((a_1, (a_2, (a_3, a_4))), k_5, ()) = T a_1 a_2 a_3 a_4 k_5 := eq_any fun k => by kernel_rfl
theorem S : a3x prog ⟨49, sig, F⟩ := sound_k (res := [.tmp 4]) func49 (cok (cM ⟨Ac0.S, cM ⟨Al5.S, cM ⟨Ai2.S, nM⟩⟩⟩))
end Al6
namespace Ad9
noncomputable def sig : Sig := ⟨[pL, pL], [oB]⟩
noncomputable def cfg : Cfg := cl (cx []) fun id => match id with | 4 => ([0, 1, 5], []) | _ => ([], [])
noncomputable def fin := finK cfg.c sig [.tmp 4]
noncomputable def F (d : LI × LI × Unit) : OB := anyK (a9q cfg fin (bd f191) (a5e sig.ps d 26))
variable (k : Nat) (x3 x4 : LI) (i5 : Int)
noncomputable def l4 : OB := Vm.runT cfg fin k [.inLoop (sub [1, 1, 0, 1, 0, 0] (bd f191)), .inBlock 0, .code (sub [1, 1, 1] (bd f191))] ⟨[vL x3, vL x4, dD, dD, dD, vI i5] ++ a8I 20, []⟩
theorem l4_eq : l4 (k + 1) x3 x4 i5 = if (decide (i5 < (x3.length : Int))) = true then if 0 ≤ i5 ∧ i5 < (x3.length : Int) then if 0 ≤ i5 ∧ i5 < (x4.length : Int) then if ((x3.getD i5.toNat 0 : Int) != (x4.getD i5.toNat 0 : Int)) = true then some ((false, ()), ()) else l4 k x3 x4 (IntKind.i64.wrap (i5 + 1)) else none else none else some ((true, ()), ()) := by kernel_rfl
variable (a_1 b_2 : LI)
noncomputable def T : OB := if ((a_1.length : Int) != (b_2.length : Int)) = true then some ((false, ()), ()) else l4 k a_1 b_2 (0 : Int)
theorem of {r} (h : Ev (fun k => T k a_1 b_2) r) : F (a_1, b_2, ()) = some r := Ev.run (fun k => by kernel_rfl) h
theorem S : a3x prog ⟨191, sig, F⟩ := sound_k (res := [.tmp 4]) func191 (cok nM)
end Ad9
namespace Aa0
noncomputable def sig : Sig := ⟨[qC, pL], [oI]⟩
noncomputable def cfg : Cfg := cl (cx [⟨191, Ad9.sig, Ad9.F⟩]) fun id => match id with | 2 => ([0, 1, 5], []) | _ => ([], [])
noncomputable def fin := finK cfg.c sig [.tmp 4]
noncomputable def F (d : LL × LI × Unit) : OI := anyK (a9q cfg fin (bd f101) (a5e sig.ps d 25))
variable (k : Nat) (x3 : LL) (x4 : LI) (i5 : Int)
noncomputable def l2 : OI := Vm.runT cfg fin k [.inLoop (sub [1, 0, 1, 0, 0] (bd f101)), .inBlock 0, .code (sub [1, 1] (bd f101))] ⟨[.rptr false [cQ x3], vL x4, dD, dD, dD, vI i5] ++ a8I 19, []⟩
theorem l2_eq : l2 (k + 1) x3 x4 i5 = if (decide (i5 < (x3.length : Int))) = true then if 0 ≤ i5 ∧ i5 < (x3.length : Int) then (Ad9.F (x3.getD i5.toNat ([] : LI), x4, ())).bind fun r6 => if r6.1.1 = true then some ((i5, ()), ()) else l2 k x3 x4 (IntKind.i64.wrap (i5 + 1)) else none else some (((-1 : Int), ()), ()) := by kernel_rfl
variable (c_1 : LL) (s_2 : LI)
noncomputable def T : OI := l2 k c_1 s_2 (0 : Int)
theorem of {r} (h : Ev (fun k => T k c_1 s_2) r) : F (c_1, s_2, ()) = some r := Ev.run (fun k => by kernel_rfl) h
theorem S : a3x prog ⟨101, sig, F⟩ := sound_k (res := [.tmp 4]) func101 (cok (cM ⟨Ad9.S, nM⟩))
end Aa0
namespace Aa1
noncomputable def sig : Sig := ⟨[pI, pI, pI], [oB]⟩
noncomputable def cfg : Cfg := cf (cx [])
noncomputable def fin := finK cfg.c sig [.tmp 6]
noncomputable def F (d : Int × Int × Int × Unit) : OB := anyK (a9q cfg fin (bd f176) (a5e sig.ps d 15))
variable (n_1 low_2 high_3 : Int)
noncomputable def T : OB := if (decide (n_1 ≥ low_2)) = true then some ((decide (n_1 ≤ high_3), ()), ()) else some ((false, ()), ())
theorem eq : F (n_1, low_2, high_3, ()) = T n_1 low_2 high_3 := eq_any fun k => by kernel_rfl
theorem S : a3x prog ⟨176, sig, F⟩ := sound_k (res := [.tmp 6]) func176 (cok nM)
end Aa1
namespace Ai6
noncomputable def sig : Sig := ⟨[pL, pI, pI], [oB]⟩
noncomputable def cfg : Cfg := cl (cx [⟨176, Aa1.sig, Aa1.F⟩]) fun id => match id with | 2 => ([0, 1, 2, 7], []) | _ => ([], [])
noncomputable def fin := finK cfg.c sig [.tmp 6]
noncomputable def F (d : LI × Int × Int × Unit) : OB := anyK (a9q cfg fin (bd f253) (a5e sig.ps d 38))
variable (k : Nat) (x4 : LI) (i5 i6 i7 : Int)
noncomputable def l2 : OB := Vm.runT cfg fin k [.inLoop (sub [1, 0, 1, 0, 0] (bd f253)), .inBlock 0, .code (sub [1, 1] (bd f253))] ⟨[vL x4, vI i5, vI i6, dD, dD, dD, dD, vI i7] ++ a8I 30, []⟩
theorem l2_eq : l2 (k + 1) x4 i5 i6 i7 = if (decide (i7 < (x4.length : Int))) = true then if 0 ≤ i7 ∧ i7 < (x4.length : Int) then (Aa1.F ((x4.getD i7.toNat 0 : Int), i5, i6, ())).bind fun r8 => if (!r8.1.1) = true then some ((false, ()), ()) else if (decide (i7 > 0)) = true then if 0 ≤ (IntKind.i64.wrap (i7 - 1)) ∧ (IntKind.i64.wrap (i7 - 1)) < (x4.length : Int) then if 0 ≤ i7 ∧ i7 < (x4.length : Int) then if (decide ((x4.getD (IntKind.i64.wrap (i7 - 1)).toNat 0) ≥ (x4.getD i7.toNat 0 : Int))) = true then some ((false, ()), ()) else l2 k x4 i5 i6 (IntKind.i64.wrap (i7 + 1)) else none else none else l2 k x4 i5 i6 (IntKind.i64.wrap (i7 + 1)) else none else some ((true, ()), ()) := by kernel_rfl
variable (list_1 : LI) (low_2 high_3 : Int)
noncomputable def T : OB := l2 k list_1 low_2 high_3 (0 : Int)
theorem of {r} (h : Ev (fun k => T k list_1 low_2 high_3) r) : F (list_1, low_2, high_3, ()) = some r := Ev.run (fun k => by kernel_rfl) h
theorem S : a3x prog ⟨253, sig, F⟩ := sound_k (res := [.tmp 6]) func253 (cok (cM ⟨Aa1.S, nM⟩))
end Ai6
namespace Al2
noncomputable def sig : Sig := ⟨[pL], [oB]⟩
noncomputable def cfg : Cfg := cf (cx [⟨176, Aa1.sig, Aa1.F⟩, ⟨253, Ai6.sig, Ai6.F⟩])
noncomputable def fin := finK cfg.c sig [.tmp 2]
noncomputable def F (d : LI × Unit) : OB := anyK (a9q cfg fin (bd f182) (a5e sig.ps d 10))
variable (s_1 : LI)
noncomputable def T : OB := (Aa1.F ((s_1.length : Int), (1 : Int), (4 : Int), ())).bind fun r2 => if r2.1.1 = true then (Ai6.F (s_1, (0 : Int), (9 : Int), ())).bind fun r3 => some ((r3.1.1, ()), ()) else some ((false, ()), ())
theorem eq : F (s_1, ()) = T s_1 := eq_any fun k => by kernel_rfl
theorem S : a3x prog ⟨182, sig, F⟩ := sound_k (res := [.tmp 2]) func182 (cok (cM ⟨Aa1.S, cM ⟨Ai6.S, nM⟩⟩))
end Al2
namespace Af5
noncomputable def sig : Sig := ⟨[pL, pL], [oB]⟩
noncomputable def cfg : Cfg := cl (cx []) fun id => match id with | 4 => ([0, 1, 5], []) | _ => ([], [])
noncomputable def fin := finK cfg.c sig [.tmp 4]
noncomputable def F (d : LI × LI × Unit) : OB := anyK (a9q cfg fin (bd f183) (a5e sig.ps d 40))
variable (k : Nat) (x3 x4 : LI) (i5 : Int)
noncomputable def l4 : OB := Vm.runT cfg fin k [.inLoop (sub [1, 1, 0, 1, 0, 0] (bd f183)), .inBlock 0, .code (sub [1, 1, 1] (bd f183))] ⟨[vL x3, vL x4, dD, dD, dD, vI i5] ++ a8I 34, []⟩
theorem l4_eq : l4 (k + 1) x3 x4 i5 = if (decide (i5 < (x3.length : Int))) = true then if 0 ≤ i5 ∧ i5 < (x3.length : Int) then if 0 ≤ i5 ∧ i5 < (x4.length : Int) then if ((x3.getD i5.toNat 0 : Int) != (x4.getD i5.toNat 0 : Int)) = true then if 0 ≤ i5 ∧ i5 < (x3.length : Int) then if 0 ≤ i5 ∧ i5 < (x4.length : Int) then some ((decide ((x3.getD i5.toNat 0 : Int) < (x4.getD i5.toNat 0 : Int)), ()), ()) else none else none else l4 k x3 x4 (IntKind.i64.wrap (i5 + 1)) else none else none else some ((false, ()), ()) := by kernel_rfl
variable (a_1 b_2 : LI)
noncomputable def T : OB := if ((a_1.length : Int) != (b_2.length : Int)) = true then some ((decide ((a_1.length : Int) < (b_2.length : Int)), ()), ()) else l4 k a_1 b_2 (0 : Int)
theorem of {r} (h : Ev (fun k => T k a_1 b_2) r) : F (a_1, b_2, ()) = some r := Ev.run (fun k => by kernel_rfl) h
theorem S : a3x prog ⟨183, sig, F⟩ := sound_k (res := [.tmp 4]) func183 (cok nM)
end Af5
namespace Ab0
noncomputable def sig : Sig := ⟨[pL], [oL]⟩
noncomputable def cfg : Cfg := cf (cx [])
noncomputable def fin := finK cfg.c sig [.tmp 2]
noncomputable def F (d : LI × Unit) : OL := anyK (a9q cfg fin (bd f152) (a5e sig.ps d 6))
variable (list_1 : LI)
noncomputable def T : OL := if ([] : LI).length + list_1.length ≤ bigA then some ((([] : LI) ++ list_1, ()), ()) else none
theorem eq : F (list_1, ()) = T list_1 := eq_any fun k => by kernel_rfl
theorem S : a3x prog ⟨152, sig, F⟩ := sound_k (res := [.tmp 2]) func152 (cok nM)
end Ab0
namespace Ae0
noncomputable def sig : Sig := ⟨[pL, pI], [oL]⟩
noncomputable def cfg : Cfg := cf (cx [⟨152, Ab0.sig, Ab0.F⟩])
noncomputable def fin := finK cfg.c sig [.tmp 4]
noncomputable def F (d : LI × Int × Unit) : OL := anyK (a9q cfg fin (bd f184) (a5e sig.ps d 16))
variable (s_1 : LI) (k_2 : Int)
noncomputable def T : OL := if 0 ≤ (0 : Int) ∧ (0 : Int) ≤ k_2 ∧ k_2 ≤ (s_1.length : Int) then (Ab0.F (cutL s_1 (0 : Int) k_2, ())).bind fun r3 => if 0 ≤ (IntKind.i64.wrap (k_2 + (1 : Int))) ∧ (IntKind.i64.wrap (k_2 + (1 : Int))) ≤ (s_1.length : Int) ∧ (s_1.length : Int) ≤ (s_1.length : Int) then if r3.1.1.length + (cutL s_1 (IntKind.i64.wrap (k_2 + (1 : Int))) (s_1.length : Int)).length ≤ bigA then some ((r3.1.1 ++ (cutL s_1 (IntKind.i64.wrap (k_2 + (1 : Int))) (s_1.length : Int)), ()), ()) else none else none else none
theorem eq : F (s_1, k_2, ()) = T s_1 k_2 := eq_any fun k => by kernel_rfl
theorem S : a3x prog ⟨184, sig, F⟩ := sound_k (res := [.tmp 4]) func184 (cok (cM ⟨Ab0.S, nM⟩))
end Ae0
namespace Aa2
noncomputable def sig : Sig := ⟨[qC], [oB]⟩
noncomputable def cfg : Cfg := cl (cx [⟨101, Aa0.sig, Aa0.F⟩, ⟨182, Al2.sig, Al2.F⟩, ⟨183, Af5.sig, Af5.F⟩, ⟨184, Ae0.sig, Ae0.F⟩]) fun id => match id with | 4 => ([0, 3], []) | 10 => ([0, 3, 4, 5], []) | _ => ([], [])
noncomputable def fin := finK cfg.c sig [.tmp 2]
noncomputable def F (d : LL × Unit) : OB := anyK (a9q cfg fin (bd f92) (a5e sig.ps d 65))
variable (k : Nat) (x2 : LL) (i3 : Int)
noncomputable def l4 : OB := Vm.runT cfg fin k [.inLoop (sub [1, 1, 0, 1, 0, 0] (bd f92)), .inBlock 0, .code (sub [1, 1, 1] (bd f92))] ⟨[.rptr false [cQ x2], dD, dD, vI i3] ++ a8I 61, []⟩
variable (x6 : LL) (i7 : Int) (x8 : LI) (i9 : Int)
noncomputable def l10 : OB := Vm.runT cfg fin k [.inLoop (sub [1, 1, 0, 1, 0, 0, 1, 0, 0, 1, 1, 1, 0, 0] (bd f92)), .inBlock 2, .inBlock 1, .code (sub [1, 1, 0, 1, 0, 0, 1, 1] (bd f92)), .inLoop (sub [1, 1, 0, 1, 0, 0] (bd f92)), .inBlock 0, .code (sub [1, 1, 1] (bd f92))] ⟨[.rptr false [cQ x6], dD, dD, vI i7, vL x8, vI i9] ++ a8I 59, []⟩
theorem l4_eq : l4 (k + 1) x2 i3 = if (decide (i3 < (x2.length : Int))) = true then if 0 ≤ i3 ∧ i3 < (x2.length : Int) then (Al2.F (x2.getD i3.toNat ([] : LI), ())).bind fun r4 => if (!r4.1.1) = true then some ((false, ()), ()) else if (decide (i3 > 0)) = true then if 0 ≤ (IntKind.i64.wrap (i3 - 1)) ∧ (IntKind.i64.wrap (i3 - 1)) < (x2.length : Int) then (Af5.F (x2.getD (IntKind.i64.wrap (i3 - 1)).toNat ([] : LI), x2.getD i3.toNat ([] : LI), ())).bind fun r5 => if (!r5.1.1) = true then some ((false, ()), ()) else l10 k x2 i3 (x2.getD i3.toNat ([] : LI)) (0 : Int) else none else l10 k x2 i3 (x2.getD i3.toNat ([] : LI)) (0 : Int) else none else some ((true, ()), ()) := by kernel_rfl
theorem l10_eq : l10 (k + 1) x6 i7 x8 i9 = if (decide (i9 < (x8.length : Int))) = true then if (decide ((x8.length : Int) > 1)) = true then (Ae0.F (x8, i9, ())).bind fun r10 => (Aa0.F (x6, r10.1.1, ())).bind fun r11 => if (decide (r11.1.1 < 0)) = true then some ((false, ()), ()) else l10 k x6 i7 x8 (IntKind.i64.wrap (i9 + 1)) else l4 k x6 (IntKind.i64.wrap (i7 + 1)) else l4 k x6 (IntKind.i64.wrap (i7 + 1)) := by kernel_rfl
variable (toArray_1 : LL)
noncomputable def T : OB := if (decide ((toArray_1.length : Int) > 48)) = true then some ((false, ()), ()) else l4 k toArray_1 (0 : Int)
theorem of {r} (h : Ev (fun k => T k toArray_1) r) : F (toArray_1, ()) = some r := Ev.run (fun k => by kernel_rfl) h
theorem S : a3x prog ⟨92, sig, F⟩ := sound_k (res := [.tmp 2]) func92 (cok (cM ⟨Aa0.S, cM ⟨Al2.S, cM ⟨Af5.S, cM ⟨Ae0.S, nM⟩⟩⟩⟩))
end Aa2
namespace Ab7
noncomputable def sig : Sig := ⟨[qC, pI, pI], [oI]⟩
noncomputable def cfg : Cfg := cl (cx []) fun id => match id with | 3 => ([0, 1, 2, 7, 8], []) | _ => ([], [])
noncomputable def fin := finK cfg.c sig [.tmp 6]
noncomputable def F (d : LL × Int × Int × Unit) : OI := anyK (a9q cfg fin (bd f117) (a5e sig.ps d 36))
variable (k : Nat) (x4 : LL) (i5 i6 i7 i8 : Int)
noncomputable def l3 : OI := Vm.runT cfg fin k [.inLoop (sub [1, 1, 0, 1, 0, 0] (bd f117)), .inBlock 0, .code (sub [1, 1, 1] (bd f117))] ⟨[.rptr false [cQ x4], vI i5, vI i6, dD, dD, dD, dD, vI i7, vI i8] ++ a8I 27, []⟩
theorem l3_eq : l3 (k + 1) x4 i5 i6 i7 i8 = if (decide (i8 < i5)) = true then if 0 ≤ i8 ∧ i8 < (x4.length : Int) then if (decide (((x4.getD i8.toNat ([] : LI)).length : Int) > 1)) = true then if 0 ≤ i8 ∧ i8 < (x4.length : Int) then l3 k x4 i5 i6 (IntKind.i64.wrap (i7 + ((x4.getD i8.toNat ([] : LI)).length : Int))) (IntKind.i64.wrap (i8 + 1)) else none else l3 k x4 i5 i6 i7 (IntKind.i64.wrap (i8 + 1)) else none else some ((IntKind.i64.wrap (i7 + i6), ()), ()) := by kernel_rfl
variable (c_1 : LL) (simplex_2 i_3 : Int)
noncomputable def T : OI := l3 k c_1 simplex_2 i_3 (0 : Int) (0 : Int)
theorem of {r} (h : Ev (fun k => T k c_1 simplex_2 i_3) r) : F (c_1, simplex_2, i_3, ()) = some r := Ev.run (fun k => by kernel_rfl) h
theorem S : a3x prog ⟨117, sig, F⟩ := sound_k (res := [.tmp 6]) func117 (cok nM)
end Ab7
namespace Ad6
noncomputable def sig : Sig := ⟨[pL, pI, pI], [oB]⟩
noncomputable def cfg : Cfg := cl (cx [⟨176, Aa1.sig, Aa1.F⟩]) fun id => match id with | 2 => ([0, 1, 2, 7], []) | _ => ([], [])
noncomputable def fin := finK cfg.c sig [.tmp 6]
noncomputable def F (d : LI × Int × Int × Unit) : OB := anyK (a9q cfg fin (bd f99) (a5e sig.ps d 26))
variable (k : Nat) (x4 : LI) (i5 i6 i7 : Int)
noncomputable def l2 : OB := Vm.runT cfg fin k [.inLoop (sub [1, 0, 1, 0, 0] (bd f99)), .inBlock 0, .code (sub [1, 1] (bd f99))] ⟨[vL x4, vI i5, vI i6, dD, dD, dD, dD, vI i7] ++ a8I 18, []⟩
theorem l2_eq : l2 (k + 1) x4 i5 i6 i7 = if (decide (i7 < (x4.length : Int))) = true then if 0 ≤ i7 ∧ i7 < (x4.length : Int) then (Aa1.F ((x4.getD i7.toNat 0 : Int), (0 : Int), IntKind.i64.wrap (i6 - 1), ())).bind fun r8 => if (!r8.1.1) = true then some ((false, ()), ()) else l2 k x4 i5 i6 (IntKind.i64.wrap (i7 + 1)) else none else some (((x4.length : Int) == i5, ()), ()) := by kernel_rfl
variable (v_1 : LI) (n_2 p_3 : Int)
noncomputable def T : OB := l2 k v_1 n_2 p_3 (0 : Int)
theorem of {r} (h : Ev (fun k => T k v_1 n_2 p_3) r) : F (v_1, n_2, p_3, ()) = some r := Ev.run (fun k => by kernel_rfl) h
theorem S : a3x prog ⟨99, sig, F⟩ := sound_k (res := [.tmp 6]) func99 (cok (cM ⟨Aa1.S, nM⟩))
end Ad6
namespace Ai7
noncomputable def sig : Sig := ⟨[qC, pI], [oL]⟩
noncomputable def cfg : Cfg := cl (cx []) fun id => match id with | 3 => ([0, 1, 5, 6], [20]) | _ => ([], [])
noncomputable def fin := finK cfg.c sig [.tmp 4]
noncomputable def F (d : LL × Int × Unit) : OL := anyK (a9q cfg fin (bd f74) (a5e sig.ps d 33))
variable (k : Nat) (x3 : LL) (i4 i5 : Int) (x6 : LI)
noncomputable def l3 : OL := Vm.runT cfg fin k [.inLoop (sub [1, 1, 0, 1, 0, 0] (bd f74)), .inBlock 0, .code (sub [1, 1, 1] (bd f74))] ⟨[.rptr false [cQ x3], vI i4, dD, dD, dD, .view 20 (.root 0) 1 false, vI i5] ++ a8I 26, [(20, ⟨false, [dL x6]⟩)]⟩
theorem l3_eq : l3 (k + 1) x3 i4 i5 x6 = if (decide (i5 < (x3.length : Int))) = true then if 0 ≤ i5 ∧ i5 < (x3.length : Int) then if (((x3.getD i5.toNat ([] : LI)).length : Int) == (IntKind.i64.wrap (i4 + 1))) = true then if x6.length + [i5].length ≤ bigA then l3 k x3 i4 (IntKind.i64.wrap (i5 + 1)) (x6 ++ [i5]) else none else l3 k x3 i4 (IntKind.i64.wrap (i5 + 1)) x6 else none else some ((x6, ()), ()) := by kernel_rfl
variable (c_1 : LL) (dimension_2 : Int)
noncomputable def T : OL := l3 k c_1 dimension_2 (0 : Int) ([] : LI)
theorem of {r} (h : Ev (fun k => T k c_1 dimension_2) r) : F (c_1, dimension_2, ()) = some r := Ev.run (fun k => by kernel_rfl) h
theorem S : a3x prog ⟨74, sig, F⟩ := sound_k (res := [.tmp 4]) func74 (cok nM)
end Ai7
namespace Ag6
noncomputable def sig : Sig := ⟨[qC, pL, pI], [oI]⟩
noncomputable def cfg : Cfg := cl (cx [⟨74, Ai7.sig, Ai7.F⟩]) fun id => match id with | 4 => ([1, 7, 8, 9], [28]) | _ => ([], [])
noncomputable def fin := finK cfg.c sig [.tmp 6]
noncomputable def F (d : LL × LI × Int × Unit) : OI := anyK (a9q cfg fin (bd f100) (a5e sig.ps d 29))
variable (k : Nat) (x5 : LI) (i6 i7 : Int) (x8 : LI)
noncomputable def l4 : OI := Vm.runT cfg fin k [.inLoop (sub [1, 1, 1, 0, 1, 0, 0] (bd f100)), .inBlock 0, .code (sub [1, 1, 1, 1] (bd f100))] ⟨[dD, vL x5, dD, dD, dD, dD, dD, .view 28 (.root 0) 1 false, vI i6, vI i7] ++ a8I 19, [(28, ⟨false, [dL x8]⟩)]⟩
theorem l4_eq : l4 (k + 1) x5 i6 i7 x8 = if (decide (i7 < (x8.length : Int))) = true then if 0 ≤ i7 ∧ i7 < (x8.length : Int) then if 0 ≤ (x8.getD i7.toNat 0 : Int) ∧ (x8.getD i7.toNat 0 : Int) < (x5.length : Int) then l4 k x5 (IntKind.i64.wrap (i6 + (x5.getD (x8.getD i7.toNat 0 : Int).toNat 0))) (IntKind.i64.wrap (i7 + 1)) x8 else none else none else some ((i6, ()), ()) := by kernel_rfl
variable (c_1 : LL) (stalks_2 : LI) (k_3 : Int)
noncomputable def T : OI := (Ai7.F (c_1, k_3, ())).bind fun r4 => l4 k stalks_2 (0 : Int) (0 : Int) r4.1.1
theorem of {r} (h : Ev (fun k => T k c_1 stalks_2 k_3) r) : F (c_1, stalks_2, k_3, ()) = some r := Ev.run (fun k => by kernel_rfl) h
theorem S : a3x prog ⟨100, sig, F⟩ := sound_k (res := [.tmp 6]) func100 (cok (cM ⟨Ai7.S, nM⟩))
end Ag6
namespace Af6
noncomputable def sig : Sig := ⟨[qC, pL], [oB]⟩
noncomputable def cfg : Cfg := cl (cx [⟨99, Ad6.sig, Ad6.F⟩, ⟨100, Ag6.sig, Ag6.F⟩]) fun id => match id with | 4 => ([0, 1, 5], []) | _ => ([], [])
noncomputable def fin := finK cfg.c sig [.tmp 4]
noncomputable def F (d : LL × LI × Unit) : OB := anyK (a9q cfg fin (bd f129) (a5e sig.ps d 23))
variable (k : Nat) (x4 : LL) (x5 : LI) (i6 : Int)
noncomputable def l4 : OB := Vm.runT cfg fin k [.inLoop (sub [1, 1, 0, 1, 0, 0] (bd f129)), .inBlock 0, .code (sub [1, 1, 1] (bd f129))] ⟨[.rptr false [cQ x4], vL x5, dD, dD, dD, vI i6] ++ a8I 17, []⟩
theorem l4_eq : l4 (k + 1) x4 x5 i6 = if (decide (i6 ≤ 3)) = true then (Ag6.F (x4, x5, i6, ())).bind fun r7 => if (decide (r7.1.1 > 32)) = true then some ((false, ()), ()) else l4 k x4 x5 (IntKind.i64.wrap (i6 + 1)) else some ((true, ()), ()) := by kernel_rfl
variable (c_1 : LL) (stalks_2 : LI)
noncomputable def T : OB := (Ad6.F (stalks_2, (c_1.length : Int), (4 : Int), ())).bind fun r3 => if (!r3.1.1) = true then some ((false, ()), ()) else l4 k c_1 stalks_2 (0 : Int)
theorem of {r} (h : Ev (fun k => T k c_1 stalks_2) r) : F (c_1, stalks_2, ()) = some r := Ev.run (fun k => by kernel_rfl) h
theorem S : a3x prog ⟨129, sig, F⟩ := sound_k (res := [.tmp 4]) func129 (cok (cM ⟨Ad6.S, cM ⟨Ag6.S, nM⟩⟩))
end Af6
namespace Af3
noncomputable def sig : Sig := ⟨[pI], [oB]⟩
noncomputable def cfg : Cfg := cl (cx [⟨176, Aa1.sig, Aa1.F⟩]) fun id => match id with | 4 => ([0, 3], []) | _ => ([], [])
noncomputable def fin := finK cfg.c sig [.tmp 2]
noncomputable def F (d : Int × Unit) : OB := anyK (a9q cfg fin (bd f286) (a5e sig.ps d 18))
variable (k : Nat) (i3 i4 : Int)
noncomputable def l4 : OB := Vm.runT cfg fin k [.inLoop (sub [1, 1, 0, 1, 0, 0] (bd f286)), .inBlock 0, .code (sub [1, 1, 1] (bd f286))] ⟨[vI i3, dD, dD, vI i4] ++ a8I 14, []⟩
theorem l4_eq : l4 (k + 1) i3 i4 = if (decide ((IntKind.i64.wrap (i4 * i4)) ≤ i3)) = true then if i4 = 0 then none else if ((i3.tmod i4) == 0) = true then some ((false, ()), ()) else l4 k i3 (IntKind.i64.wrap (i4 + 1)) else some ((true, ()), ()) := by kernel_rfl
variable (p_1 : Int)
noncomputable def T : OB := (Aa1.F (p_1, (2 : Int), (251 : Int), ())).bind fun r2 => if (!r2.1.1) = true then some ((false, ()), ()) else l4 k p_1 (2 : Int)
theorem of {r} (h : Ev (fun k => T k p_1) r) : F (p_1, ()) = some r := Ev.run (fun k => by kernel_rfl) h
theorem S : a3x prog ⟨286, sig, F⟩ := sound_k (res := [.tmp 2]) func286 (cok (cM ⟨Aa1.S, nM⟩))
end Af3
namespace Ag5
noncomputable def sig : Sig := ⟨[pI], [oB]⟩
noncomputable def cfg : Cfg := cf (cx [⟨286, Af3.sig, Af3.F⟩])
noncomputable def fin := finK cfg.c sig [.tmp 2]
noncomputable def F (d : Int × Unit) : OB := anyK (a9q cfg fin (bd f250) (a5e sig.ps d 5))
variable (p_1 : Int)
noncomputable def T : OB := (Af3.F (p_1, ())).bind fun r2 => some ((r2.1.1, ()), ())
theorem eq : F (p_1, ()) = T p_1 := eq_any fun k => by kernel_rfl
theorem S : a3x prog ⟨250, sig, F⟩ := sound_k (res := [.tmp 2]) func250 (cok (cM ⟨Af3.S, nM⟩))
end Ag5
namespace Am3
noncomputable def sig : Sig := ⟨[qC], [oI]⟩
noncomputable def cfg : Cfg := cf (cx [⟨117, Ab7.sig, Ab7.F⟩])
noncomputable def fin := finK cfg.c sig [.tmp 2]
noncomputable def F (d : LL × Unit) : OI := anyK (a9q cfg fin (bd f260) (a5e sig.ps d 10))
variable (c_1 : LL)
noncomputable def T : OI := (Ab7.F (c_1, (c_1.length : Int), (0 : Int), ())).bind fun r2 => some ((r2.1.1, ()), ())
theorem eq : F (c_1, ()) = T c_1 := eq_any fun k => by kernel_rfl
theorem S : a3x prog ⟨260, sig, F⟩ := sound_k (res := [.tmp 2]) func260 (cok (cM ⟨Ab7.S, nM⟩))
end Am3
namespace Ab3
noncomputable def sig : Sig := ⟨[qC, pI], [oL]⟩
noncomputable def cfg : Cfg := cl (cx [⟨101, Aa0.sig, Aa0.F⟩, ⟨184, Ae0.sig, Ae0.F⟩]) fun id => match id with | 4 => ([0, 5, 6, 7], [24]) | _ => ([], [])
noncomputable def fin := finK cfg.c sig [.tmp 4]
noncomputable def F (d : LL × Int × Unit) : OL := anyK (a9q cfg fin (bd f115) (a5e sig.ps d 36))
variable (k : Nat) (x3 : LL) (x4 : LI) (i5 : Int) (x6 : LI)
noncomputable def l4 : OL := Vm.runT cfg fin k [.inLoop (sub [1, 1, 1, 0, 1, 0, 0] (bd f115)), .inBlock 0, .code (sub [1, 1, 1, 1] (bd f115))] ⟨[.rptr false [cQ x3], dD, dD, dD, dD, vL x4, .view 24 (.root 0) 1 false, vI i5] ++ a8I 28, [(24, ⟨false, [dL x6]⟩)]⟩
theorem l4_eq : l4 (k + 1) x3 x4 i5 x6 = if (decide (i5 < (x4.length : Int))) = true then if (decide ((x4.length : Int) > 1)) = true then (Ae0.F (x4, i5, ())).bind fun r7 => (Aa0.F (x3, r7.1.1, ())).bind fun r8 => if x6.length + [r8.1.1].length ≤ bigA then l4 k x3 x4 (IntKind.i64.wrap (i5 + 1)) (x6 ++ [r8.1.1]) else none else some ((x6, ()), ()) else some ((x6, ()), ()) := by kernel_rfl
variable (c_1 : LL) (k_2 : Int)
noncomputable def T : OL := if 0 ≤ k_2 ∧ k_2 < (c_1.length : Int) then l4 k c_1 (c_1.getD k_2.toNat ([] : LI)) (0 : Int) ([] : LI) else none
theorem of {r} (h : Ev (fun k => T k c_1 k_2) r) : F (c_1, k_2, ()) = some r := Ev.run (fun k => by kernel_rfl) h
theorem S : a3x prog ⟨115, sig, F⟩ := sound_k (res := [.tmp 4]) func115 (cok (cM ⟨Aa0.S, cM ⟨Ae0.S, nM⟩⟩))
end Ab3
namespace Al1
noncomputable def sig : Sig := ⟨[qM], [oB]⟩
noncomputable def cfg : Cfg := cf (cx [⟨99, Ad6.sig, Ad6.F⟩, ⟨176, Aa1.sig, Aa1.F⟩, ⟨250, Ag5.sig, Ag5.F⟩])
noncomputable def fin := finK cfg.c sig [.tmp 2]
noncomputable def F (d : MX × Unit) : OB := anyK (a9q cfg fin (bd f233) (a5e sig.ps d 42))
variable (m_1 m_2 m_3 : Int) (m_4 : LI)
noncomputable def T : OB := (Ag5.F (m_1, ())).bind fun r5 => if r5.1.1 = true then (Aa1.F (m_2, (0 : Int), (32 : Int), ())).bind fun r6 => if r6.1.1 = true then (Aa1.F (m_3, (0 : Int), (32 : Int), ())).bind fun r7 => if r7.1.1 = true then (Ad6.F (m_4, IntKind.i64.wrap (m_2 * m_3), m_1, ())).bind fun r8 => some ((r8.1.1, ()), ()) else some ((false, ()), ()) else some ((false, ()), ()) else some ((false, ()), ())
theorem eq : F ((m_1, (m_2, (m_3, m_4))), ()) = T m_1 m_2 m_3 m_4 := eq_any fun k => by kernel_rfl
theorem S : a3x prog ⟨233, sig, F⟩ := sound_k (res := [.tmp 2]) func233 (cok (cM ⟨Ad6.S, cM ⟨Aa1.S, cM ⟨Ag5.S, nM⟩⟩⟩))
end Al1
namespace Al3
noncomputable def sig : Sig := ⟨[qS, pI, pI, qM], [oB]⟩
noncomputable def cfg : Cfg := cf (cx [⟨115, Ab3.sig, Ab3.F⟩, ⟨233, Al1.sig, Al1.F⟩])
noncomputable def fin := finK cfg.c sig [.tmp 8]
noncomputable def F (d : SF × Int × Int × MX × Unit) : OB := anyK (a9q cfg fin (bd f261) (a5e sig.ps d 59))
noncomputable def T (s_1 : LL) (s_2 : Int) (s_3 : LI) (s_4 : LM) (simplex_5 i_6 m_7 m_8 m_9 : Int) (m_10 : LI) : OB := (Ab3.F (s_1, simplex_5, ())).bind fun r11 => if 0 ≤ i_6 ∧ i_6 < (r11.1.1.length : Int) then (Al1.F ((m_7, (m_8, (m_9, m_10))), ())).bind fun r12 => if r12.1.1 = true then if (m_7 == s_2) = true then if 0 ≤ simplex_5 ∧ simplex_5 < (s_3.length : Int) then if (m_8 == (s_3.getD simplex_5.toNat 0 : Int)) = true then if 0 ≤ (r11.1.1.getD i_6.toNat 0 : Int) ∧ (r11.1.1.getD i_6.toNat 0 : Int) < (s_3.length : Int) then some ((m_9 == (s_3.getD (r11.1.1.getD i_6.toNat 0 : Int).toNat 0), ()), ()) else none else some ((false, ()), ()) else none else some ((false, ()), ()) else some ((false, ()), ()) else none
theorem eq (s_1 : LL) (s_2 : Int) (s_3 : LI) (s_4 : LM) (simplex_5 i_6 m_7 m_8 m_9 : Int) (m_10 : LI) : F ((s_1, (s_2, (s_3, s_4))), simplex_5, i_6, (m_7, (m_8, (m_9, m_10))), ()) = T s_1 s_2 s_3 s_4 simplex_5 i_6 m_7 m_8 m_9 m_10 := eq_any fun k => by kernel_rfl
theorem S : a3x prog ⟨261, sig, F⟩ := sound_k (res := [.tmp 8]) func261 (cok (cM ⟨Ab3.S, cM ⟨Al1.S, nM⟩⟩))
end Al3
namespace Aa3
noncomputable def sig : Sig := ⟨[qS], [oB]⟩
noncomputable def cfg : Cfg := cl (cx [⟨92, Aa2.sig, Aa2.F⟩, ⟨117, Ab7.sig, Ab7.F⟩, ⟨129, Af6.sig, Af6.F⟩, ⟨250, Ag5.sig, Ag5.F⟩, ⟨260, Am3.sig, Am3.F⟩, ⟨261, Al3.sig, Al3.F⟩]) fun id => match id with | 4 => ([0, 3], []) | 7 => ([0, 3, 4], []) | _ => ([], [])
noncomputable def fin := finK cfg.c sig [.tmp 2]
noncomputable def F (d : SF × Unit) : OB := anyK (a9q cfg fin (bd f189) (a5e sig.ps d 92))
variable (k : Nat) (x9 : LL) (i10 : Int) (x11 : LI) (x12 : LM) (i13 : Int)
noncomputable def l4 : OB := Vm.runT cfg fin k [.inLoop (sub [1, 1, 0, 1, 0, 0] (bd f189)), .inBlock 0, .code (sub [1, 1, 1] (bd f189))] ⟨[.rptr false [cQ x9, cI i10, cL x11, ⟨(.sl TMatrix), .sh, x12⟩], dD, dD, vI i13] ++ a8I 88, []⟩
variable (x14 : LL) (i15 : Int) (x16 : LI) (x17 : LM) (i18 i19 : Int)
noncomputable def l7 : OB := Vm.runT cfg fin k [.inLoop (sub [1, 1, 0, 1, 0, 0, 1, 0, 0, 1, 0, 0] (bd f189)), .inBlock 2, .inBlock 1, .code (sub [1, 1, 0, 1, 0, 0, 1, 1] (bd f189)), .inLoop (sub [1, 1, 0, 1, 0, 0] (bd f189)), .inBlock 0, .code (sub [1, 1, 1] (bd f189))] ⟨[.rptr false [cQ x14, cI i15, cL x16, ⟨(.sl TMatrix), .sh, x17⟩], dD, dD, vI i18, vI i19] ++ a8I 87, []⟩
theorem l4_eq : l4 (k + 1) x9 i10 x11 x12 i13 = if (decide (i13 < (x9.length : Int))) = true then l7 k x9 i10 x11 x12 i13 (0 : Int) else some ((true, ()), ()) := by kernel_rfl
theorem l7_eq : l7 (k + 1) x14 i15 x16 x17 i18 i19 = if 0 ≤ i18 ∧ i18 < (x14.length : Int) then if (decide (i19 < ((x14.getD i18.toNat ([] : LI)).length : Int))) = true then if 0 ≤ i18 ∧ i18 < (x14.length : Int) then if (decide (((x14.getD i18.toNat ([] : LI)).length : Int) > 1)) = true then (Ab7.F (x14, i18, i19, ())).bind fun r20 => if 0 ≤ r20.1.1 ∧ r20.1.1 < (x17.length : Int) then (Al3.F ((x14, (i15, (x16, x17))), i18, i19, x17.getD r20.1.1.toNat (0, 0, 0, ([] : LI)), ())).bind fun r21 => if (!r21.1.1) = true then some ((false, ()), ()) else l7 k x14 i15 x16 x17 i18 (IntKind.i64.wrap (i19 + 1)) else none else l4 k x14 i15 x16 x17 (IntKind.i64.wrap (i18 + 1)) else none else l4 k x14 i15 x16 x17 (IntKind.i64.wrap (i18 + 1)) else none := by kernel_rfl
variable (toArray_1 : LL) (toArray_2 : Int) (toArray_3 : LI) (toArray_4 : LM)
noncomputable def T : OB := (Aa2.F (toArray_1, ())).bind fun r5 => if (!r5.1.1) = true then some ((false, ()), ()) else (Ag5.F (toArray_2, ())).bind fun r6 => if (!r6.1.1) = true then some ((false, ()), ()) else (Af6.F (toArray_1, toArray_3, ())).bind fun r7 => if (!r7.1.1) = true then some ((false, ()), ()) else (Am3.F (toArray_1, ())).bind fun r8 => if ((toArray_4.length : Int) != r8.1.1) = true then some ((false, ()), ()) else l4 k toArray_1 toArray_2 toArray_3 toArray_4 (0 : Int)
theorem of {r} (h : Ev (fun k => T k toArray_1 toArray_2 toArray_3 toArray_4) r) : F ((toArray_1, (toArray_2, (toArray_3, toArray_4))), ()) = some r := Ev.run (fun k => by kernel_rfl) h
theorem S : a3x prog ⟨189, sig, F⟩ := sound_k (res := [.tmp 2]) func189 (cok (cM ⟨Aa2.S, cM ⟨Ab7.S, cM ⟨Af6.S, cM ⟨Ag5.S, cM ⟨Am3.S, cM ⟨Al3.S, nM⟩⟩⟩⟩⟩⟩))
end Aa3
namespace Ac2
noncomputable def sig : Sig := ⟨[qS, pI, pI], [(.ptr, TMatrix, .sh)]⟩
noncomputable def cfg : Cfg := cf (cx [⟨117, Ab7.sig, Ab7.F⟩])
noncomputable def fin := finK cfg.c sig [.tmp 6]
noncomputable def F (d : SF × Int × Int × Unit) : OM := anyK (a9q cfg fin (bd f222) (a5e sig.ps d 18))
noncomputable def T (s_1 : LL) (s_2 : Int) (s_3 : LI) (s_4 : LM) (simplex_5 i_6 : Int) : OM := (Ab7.F (s_1, simplex_5, i_6, ())).bind fun r7 => if 0 ≤ r7.1.1 ∧ r7.1.1 < (s_4.length : Int) then some ((s_4.getD r7.1.1.toNat (0, 0, 0, ([] : LI)), ()), ()) else none
theorem eq (s_1 : LL) (s_2 : Int) (s_3 : LI) (s_4 : LM) (simplex_5 i_6 : Int) : F ((s_1, (s_2, (s_3, s_4))), simplex_5, i_6, ()) = T s_1 s_2 s_3 s_4 simplex_5 i_6 := eq_any fun k => by kernel_rfl
theorem S : a3x prog ⟨222, sig, F⟩ := sound_k (res := [.tmp 6]) func222 (cok (cM ⟨Ab7.S, nM⟩))
end Ac2
namespace Af4
noncomputable def sig : Sig := ⟨[pI, pI, pI], [oM]⟩
noncomputable def cfg : Cfg := cf (cx [])
noncomputable def fin := finK cfg.c sig [.cell 6 87]
noncomputable def F (d : Int × Int × Int × Unit) : OM := anyK (a9q cfg fin (bd f207) (a5e sig.ps d 15))
variable (p_1 rows_2 columns_3 : Int)
noncomputable def T : OM := if 0 ≤ (IntKind.i64.wrap (rows_2 * columns_3)) ∧ (IntKind.i64.wrap (rows_2 * columns_3)) ≤ (bigN : Int) then some (((p_1, (rows_2, (columns_3, List.replicate (IntKind.i64.wrap (rows_2 * columns_3)).toNat (0 : Int)))), ()), ()) else none
theorem eq : F (p_1, rows_2, columns_3, ()) = T p_1 rows_2 columns_3 := eq_any fun k => by kernel_rfl
theorem S : a3x prog ⟨207, sig, F⟩ := sound_k (res := [.cell 6 87]) func207 (cok nM)
end Af4
namespace Ac6
noncomputable def sig : Sig := ⟨[qM, qM], [oM]⟩
noncomputable def cfg : Cfg := cl (cx [⟨207, Af4.sig, Af4.F⟩]) fun id => match id with | 3 => ([0, 1, 4, 5, 6], [16, 20]) | 6 => ([0, 1, 4, 5, 6, 7], [16, 20]) | 10 => ([0, 1, 4, 5, 6, 7, 8, 9], [16, 20]) | _ => ([], [])
noncomputable def fin := finK cfg.c sig [.cell 4 87]
noncomputable def F (d : MX × MX × Unit) : OM := anyK (a9q cfg fin (bd f280) (a5e sig.ps d 96))
variable (k : Nat) (i10 i11 i12 : Int) (x13 : LI) (i14 i15 i16 : Int) (x17 : LI) (i18 i19 i20 i21 : Int) (x22 : LI) (i23 i24 i25 : Int) (x26 : LI)
noncomputable def l3 : OM := Vm.runT cfg fin k [.inLoop (sub [1, 1, 0, 1, 0, 0] (bd f280)), .inBlock 0, .code (sub [1, 1, 1] (bd f280))] ⟨[.rptr false [cI i10, cI i11, cI i12, cL x13], .rptr false [cI i14, cI i15, cI i16, cL x17], dD, dD, .ref 16 (.root 0), .ref 20 (.root 0), vI i18] ++ a8I 89, [(16, ⟨true, [cI i19, cI i20, cI i21, dL x22]⟩), (20, ⟨true, [cI i23, cI i24, cI i25, dL x26]⟩)]⟩
variable (i27 i28 i29 : Int) (x30 : LI) (i31 i32 i33 : Int) (x34 : LI) (i35 i36 i37 i38 i39 : Int) (x40 : LI) (i41 i42 i43 : Int) (x44 : LI)
noncomputable def l6 : OM := Vm.runT cfg fin k [.inLoop (sub [1, 1, 0, 1, 0, 0, 1, 0, 0, 1, 0, 0] (bd f280)), .inBlock 2, .inBlock 1, .code (sub [1, 1, 0, 1, 0, 0, 1, 1] (bd f280)), .inLoop (sub [1, 1, 0, 1, 0, 0] (bd f280)), .inBlock 0, .code (sub [1, 1, 1] (bd f280))] ⟨[.rptr false [cI i27, cI i28, cI i29, cL x30], .rptr false [cI i31, cI i32, cI i33, cL x34], dD, dD, .ref 16 (.root 0), .ref 20 (.root 0), vI i35, vI i36] ++ a8I 88, [(16, ⟨true, [cI i37, cI i38, cI i39, dL x40]⟩), (20, ⟨true, [cI i41, cI i42, cI i43, dL x44]⟩)]⟩
variable (i45 i46 i47 : Int) (x48 : LI) (i49 i50 i51 : Int) (x52 : LI) (i53 i54 i55 i56 i57 i58 i59 : Int) (x60 : LI) (i61 i62 i63 : Int) (x64 : LI)
noncomputable def l10 : OM := Vm.runT cfg fin k [.inLoop (sub [1, 1, 0, 1, 0, 0, 1, 0, 0, 1, 0, 0, 1, 0, 0, 1, 0, 1, 0, 0] (bd f280)), .inBlock 4, .code (sub [1, 1, 0, 1, 0, 0, 1, 0, 0, 1, 0, 0, 1, 0, 0, 1, 1] (bd f280)), .inBlock 3, .code (sub [1, 1, 0, 1, 0, 0, 1, 0, 0, 1, 0, 0, 1, 1] (bd f280)), .inLoop (sub [1, 1, 0, 1, 0, 0, 1, 0, 0, 1, 0, 0] (bd f280)), .inBlock 2, .inBlock 1, .code (sub [1, 1, 0, 1, 0, 0, 1, 1] (bd f280)), .inLoop (sub [1, 1, 0, 1, 0, 0] (bd f280)), .inBlock 0, .code (sub [1, 1, 1] (bd f280))] ⟨[.rptr false [cI i45, cI i46, cI i47, cL x48], .rptr false [cI i49, cI i50, cI i51, cL x52], dD, dD, .ref 16 (.root 0), .ref 20 (.root 0), vI i53, vI i54, vI i55, vI i56] ++ a8I 86, [(16, ⟨true, [cI i57, cI i58, cI i59, dL x60]⟩), (20, ⟨true, [cI i61, cI i62, cI i63, dL x64]⟩)]⟩
theorem l3_eq : l3 (k + 1) i10 i11 i12 x13 i14 i15 i16 x17 i18 i19 i20 i21 x22 i23 i24 i25 x26 = if (decide (i18 < i11)) = true then l6 k i10 i11 i12 x13 i14 i15 i16 x17 i18 (0 : Int) i19 i20 i21 x22 i23 i24 i25 x26 else some (((i23, (i24, (i25, x26))), ()), ()) := by kernel_rfl
theorem l6_eq : l6 (k + 1) i27 i28 i29 x30 i31 i32 i33 x34 i35 i36 i37 i38 i39 x40 i41 i42 i43 x44 = if (decide (i36 < i33)) = true then l10 k i27 i28 i29 x30 i31 i32 i33 x34 i35 i36 (0 : Int) (0 : Int) i37 i38 i39 x40 i41 i42 i43 x44 else l3 k i27 i28 i29 x30 i31 i32 i33 x34 (IntKind.i64.wrap (i35 + 1)) i37 i38 i39 x40 i41 i42 i43 x44 := by kernel_rfl
theorem l10_eq : l10 (k + 1) i45 i46 i47 x48 i49 i50 i51 x52 i53 i54 i55 i56 i57 i58 i59 x60 i61 i62 i63 x64 = if (decide (i56 < i47)) = true then if 0 ≤ (IntKind.i64.wrap ((IntKind.i64.wrap (i53 * i47)) + i56)) ∧ (IntKind.i64.wrap ((IntKind.i64.wrap (i53 * i47)) + i56)) < (x48.length : Int) then if 0 ≤ (IntKind.i64.wrap ((IntKind.i64.wrap (i56 * i51)) + i54)) ∧ (IntKind.i64.wrap ((IntKind.i64.wrap (i56 * i51)) + i54)) < (x52.length : Int) then l10 k i45 i46 i47 x48 i49 i50 i51 x52 i53 i54 (IntKind.i64.wrap (i55 + (IntKind.i64.wrap ((x48.getD (IntKind.i64.wrap ((IntKind.i64.wrap (i53 * i47)) + i56)).toNat 0 : Int) * (x52.getD (IntKind.i64.wrap ((IntKind.i64.wrap (i56 * i51)) + i54)).toNat 0 : Int))))) (IntKind.i64.wrap (i56 + 1)) i57 i58 i59 x60 i61 i62 i63 x64 else none else none else if i45 = 0 then none else if 0 ≤ (IntKind.i64.wrap ((IntKind.i64.wrap (i53 * i51)) + i54)) ∧ (IntKind.i64.wrap ((IntKind.i64.wrap (i53 * i51)) + i54)) < (x64.length : Int) then l6 k i45 i46 i47 x48 i49 i50 i51 x52 i53 (IntKind.i64.wrap (i54 + 1)) i57 i58 i59 x60 i61 i62 i63 (x64.set (IntKind.i64.wrap ((IntKind.i64.wrap (i53 * i51)) + i54)).toNat (i55.tmod i45)) else none := by kernel_rfl
variable (toArray_1 toArray_2 toArray_3 : Int) (toArray_4 : LI) (a_5 a_6 a_7 : Int) (a_8 : LI)
noncomputable def T : OM := (Af4.F (toArray_1, toArray_2, a_7, ())).bind fun r9 => l3 k toArray_1 toArray_2 toArray_3 toArray_4 a_5 a_6 a_7 a_8 (0 : Int) 0 0 0 ([]) r9.1.1.1 r9.1.1.2.1 r9.1.1.2.2.1 r9.1.1.2.2.2
theorem of {r} (h : Ev (fun k => T k toArray_1 toArray_2 toArray_3 toArray_4 a_5 a_6 a_7 a_8) r) : F ((toArray_1, (toArray_2, (toArray_3, toArray_4))), (a_5, (a_6, (a_7, a_8))), ()) = some r := Ev.run (fun k => by kernel_rfl) h
theorem S : a3x prog ⟨280, sig, F⟩ := sound_k (res := [.cell 4 87]) func280 (cok (cM ⟨Af4.S, nM⟩))
end Ac6
namespace Ae2
noncomputable def sig : Sig := ⟨[qS, pI, pI, pI], [oM]⟩
noncomputable def cfg : Cfg := cf (cx [⟨115, Ab3.sig, Ab3.F⟩, ⟨222, Ac2.sig, Ac2.F⟩, ⟨280, Ac6.sig, Ac6.F⟩])
noncomputable def fin := finK cfg.c sig [.cell 8 87]
noncomputable def F (d : SF × Int × Int × Int × Unit) : OM := anyK (a9q cfg fin (bd f262) (a5e sig.ps d 32))
variable (s_1 : LL) (s_2 : Int) (s_3 : LI) (s_4 : LM) (simplex_5 i_6 j_7 : Int)
noncomputable def T : OM := (Ab3.F (s_1, simplex_5, ())).bind fun r8 => if 0 ≤ i_6 ∧ i_6 < (r8.1.1.length : Int) then if (decide (j_7 > i_6)) = true then (Ac2.F ((s_1, (s_2, (s_3, s_4))), simplex_5, i_6, ())).bind fun r9 => (Ac2.F ((s_1, (s_2, (s_3, s_4))), (r8.1.1.getD i_6.toNat 0 : Int), IntKind.i64.wrap (j_7 - (1 : Int)), ())).bind fun r10 => (Ac6.F (r9.1.1, r10.1.1, ())).bind fun r11 => some ((r11.1.1, ()), ()) else (Ac2.F ((s_1, (s_2, (s_3, s_4))), simplex_5, i_6, ())).bind fun r12 => (Ac2.F ((s_1, (s_2, (s_3, s_4))), (r8.1.1.getD i_6.toNat 0 : Int), j_7, ())).bind fun r13 => (Ac6.F (r12.1.1, r13.1.1, ())).bind fun r14 => some ((r14.1.1, ()), ()) else none
theorem eq : F ((s_1, (s_2, (s_3, s_4))), simplex_5, i_6, j_7, ()) = T s_1 s_2 s_3 s_4 simplex_5 i_6 j_7 := eq_any fun k => by kernel_rfl
theorem S : a3x prog ⟨262, sig, F⟩ := sound_k (res := [.cell 8 87]) func262 (cok (cM ⟨Ab3.S, cM ⟨Ac2.S, cM ⟨Ac6.S, nM⟩⟩⟩))
end Ae2
namespace Ac5
noncomputable def sig : Sig := ⟨[qM, qM], [oB]⟩
noncomputable def cfg : Cfg := cl (cx []) fun id => match id with | 4 => ([0, 1, 5], []) | _ => ([], [])
noncomputable def fin := finK cfg.c sig [.tmp 4]
noncomputable def F (d : MX × MX × Unit) : OB := anyK (a9q cfg fin (bd f263) (a5e sig.ps d 74))
variable (k : Nat) (i9 i10 i11 : Int) (x12 : LI) (i13 i14 i15 : Int) (x16 : LI) (i17 : Int)
noncomputable def l4 : OB := Vm.runT cfg fin k [.inLoop (sub [1, 1, 0, 1, 0, 0] (bd f263)), .inBlock 0, .code (sub [1, 1, 1] (bd f263))] ⟨[.rptr false [cI i9, cI i10, cI i11, cL x12], .rptr false [cI i13, cI i14, cI i15, cL x16], dD, dD, dD, vI i17] ++ a8I 68, []⟩
theorem l4_eq : l4 (k + 1) i9 i10 i11 x12 i13 i14 i15 x16 i17 = if (decide (i17 < (x12.length : Int))) = true then if 0 ≤ i17 ∧ i17 < (x12.length : Int) then if 0 ≤ i17 ∧ i17 < (x16.length : Int) then if ((x12.getD i17.toNat 0 : Int) != (x16.getD i17.toNat 0 : Int)) = true then some ((false, ()), ()) else l4 k i9 i10 i11 x12 i13 i14 i15 x16 (IntKind.i64.wrap (i17 + 1)) else none else none else some ((true, ()), ()) := by kernel_rfl
variable (toArray_1 toArray_2 toArray_3 : Int) (toArray_4 : LI) (a_5 a_6 a_7 : Int) (a_8 : LI)
noncomputable def T : OB := if (toArray_1 != a_5) = true then some ((false, ()), ()) else if (toArray_2 != a_6) = true then some ((false, ()), ()) else if (toArray_3 != a_7) = true then some ((false, ()), ()) else if ((toArray_4.length : Int) != (a_8.length : Int)) = true then some ((false, ()), ()) else l4 k toArray_1 toArray_2 toArray_3 toArray_4 a_5 a_6 a_7 a_8 (0 : Int)
theorem of {r} (h : Ev (fun k => T k toArray_1 toArray_2 toArray_3 toArray_4 a_5 a_6 a_7 a_8) r) : F ((toArray_1, (toArray_2, (toArray_3, toArray_4))), (a_5, (a_6, (a_7, a_8))), ()) = some r := Ev.run (fun k => by kernel_rfl) h
theorem S : a3x prog ⟨263, sig, F⟩ := sound_k (res := [.tmp 4]) func263 (cok nM)
end Ac5
namespace Aa7
noncomputable def sig : Sig := ⟨[qS], [oI, oI, oI]⟩
noncomputable def cfg : Cfg := cl (cx [⟨262, Ae2.sig, Ae2.F⟩, ⟨263, Ac5.sig, Ac5.F⟩]) fun id => match id with | 2 => ([0, 5], []) | 6 => ([0, 5, 6, 7], []) | 9 => ([0, 5, 6, 7, 8], []) | _ => ([], [])
noncomputable def fin := finK cfg.c sig [.tmp 2, .tmp 3, .tmp 4]
noncomputable def F (d : SF × Unit) : Option ((Int × Int × Int × Unit) × (Unit)) := anyK (a9q cfg fin (bd f190) (a5e sig.ps d 61))
variable (k : Nat) (x5 : LL) (i6 : Int) (x7 : LI) (x8 : LM) (i9 : Int)
noncomputable def l2 : Option ((Int × Int × Int × Unit) × (Unit)) := Vm.runT cfg fin k [.inLoop (sub [1, 0, 1, 0, 0] (bd f190)), .inBlock 0, .code (sub [1, 1] (bd f190))] ⟨[.rptr false [cQ x5, cI i6, cL x7, ⟨(.sl TMatrix), .sh, x8⟩], dD, dD, dD, dD, vI i9] ++ a8I 55, []⟩
variable (x10 : LL) (i11 : Int) (x12 : LI) (x13 : LM) (i14 i15 i16 : Int)
noncomputable def l6 : Option ((Int × Int × Int × Unit) × (Unit)) := Vm.runT cfg fin k [.inLoop (sub [1, 0, 1, 0, 0, 1, 0, 0, 1, 1, 0, 0] (bd f190)), .inBlock 2, .inBlock 1, .code (sub [1, 0, 1, 0, 0, 1, 1] (bd f190)), .inLoop (sub [1, 0, 1, 0, 0] (bd f190)), .inBlock 0, .code (sub [1, 1] (bd f190))] ⟨[.rptr false [cQ x10, cI i11, cL x12, ⟨(.sl TMatrix), .sh, x13⟩], dD, dD, dD, dD, vI i14, vI i15, vI i16] ++ a8I 53, []⟩
variable (x17 : LL) (i18 : Int) (x19 : LI) (x20 : LM) (i21 i22 i23 i24 : Int)
noncomputable def l9 : Option ((Int × Int × Int × Unit) × (Unit)) := Vm.runT cfg fin k [.inLoop (sub [1, 0, 1, 0, 0, 1, 0, 0, 1, 1, 0, 0, 1, 0, 0, 1, 0, 0] (bd f190)), .inBlock 4, .inBlock 3, .code (sub [1, 0, 1, 0, 0, 1, 0, 0, 1, 1, 0, 0, 1, 1] (bd f190)), .inLoop (sub [1, 0, 1, 0, 0, 1, 0, 0, 1, 1, 0, 0] (bd f190)), .inBlock 2, .inBlock 1, .code (sub [1, 0, 1, 0, 0, 1, 1] (bd f190)), .inLoop (sub [1, 0, 1, 0, 0] (bd f190)), .inBlock 0, .code (sub [1, 1] (bd f190))] ⟨[.rptr false [cQ x17, cI i18, cL x19, ⟨(.sl TMatrix), .sh, x20⟩], dD, dD, dD, dD, vI i21, vI i22, vI i23, vI i24] ++ a8I 52, []⟩
theorem l2_eq : l2 (k + 1) x5 i6 x7 x8 i9 = if (decide (i9 < (x5.length : Int))) = true then if 0 ≤ i9 ∧ i9 < (x5.length : Int) then l6 k x5 i6 x7 x8 i9 ((x5.getD i9.toNat ([] : LI)).length : Int) (0 : Int) else none else some (((-1 : Int), ((0 : Int), ((0 : Int), ()))), ()) := by kernel_rfl
theorem l6_eq : l6 (k + 1) x10 i11 x12 x13 i14 i15 i16 = if (decide (i16 < i15)) = true then if (decide (i15 > 2)) = true then l9 k x10 i11 x12 x13 i14 i15 i16 (IntKind.i64.wrap (i16 + 1)) else l2 k x10 i11 x12 x13 (IntKind.i64.wrap (i14 + 1)) else l2 k x10 i11 x12 x13 (IntKind.i64.wrap (i14 + 1)) := by kernel_rfl
theorem l9_eq : l9 (k + 1) x17 i18 x19 x20 i21 i22 i23 i24 = if (decide (i24 < i22)) = true then (Ae2.F ((x17, (i18, (x19, x20))), i21, i23, i24, ())).bind fun r25 => (Ae2.F ((x17, (i18, (x19, x20))), i21, i24, i23, ())).bind fun r26 => (Ac5.F (r25.1.1, r26.1.1, ())).bind fun r27 => if (!r27.1.1) = true then some ((i21, (i23, (i24, ()))), ()) else l9 k x17 i18 x19 x20 i21 i22 i23 (IntKind.i64.wrap (i24 + 1)) else l6 k x17 i18 x19 x20 i21 i22 (IntKind.i64.wrap (i23 + 1)) := by kernel_rfl
variable (s_1 : LL) (s_2 : Int) (s_3 : LI) (s_4 : LM)
noncomputable def T : Option ((Int × Int × Int × Unit) × (Unit)) := l2 k s_1 s_2 s_3 s_4 (0 : Int)
theorem of {r} (h : Ev (fun k => T k s_1 s_2 s_3 s_4) r) : F ((s_1, (s_2, (s_3, s_4))), ()) = some r := Ev.run (fun k => by kernel_rfl) h
theorem S : a3x prog ⟨190, sig, F⟩ := sound_k (res := [.tmp 2, .tmp 3, .tmp 4]) func190 (cok (cM ⟨Ae2.S, cM ⟨Ac5.S, nM⟩⟩))
end Aa7
namespace Ah4
noncomputable def sig : Sig := ⟨[qS], [oB]⟩
noncomputable def cfg : Cfg := cf (cx [⟨189, Aa3.sig, Aa3.F⟩, ⟨190, Aa7.sig, Aa7.F⟩])
noncomputable def fin := finK cfg.c sig [.tmp 2]
noncomputable def F (d : SF × Unit) : OB := anyK (a9q cfg fin (bd f98) (a5e sig.ps d 17))
variable (s_1 : LL) (s_2 : Int) (s_3 : LI) (s_4 : LM)
noncomputable def T : OB := (Aa3.F ((s_1, (s_2, (s_3, s_4))), ())).bind fun r5 => if (!r5.1.1) = true then some ((false, ()), ()) else (Aa7.F ((s_1, (s_2, (s_3, s_4))), ())).bind fun r6 => some ((decide (r6.1.1 < 0), ()), ())
theorem eq : F ((s_1, (s_2, (s_3, s_4))), ()) = T s_1 s_2 s_3 s_4 := eq_any fun k => by kernel_rfl
theorem S : a3x prog ⟨98, sig, F⟩ := sound_k (res := [.tmp 2]) func98 (cok (cM ⟨Aa3.S, cM ⟨Aa7.S, nM⟩⟩))
end Ah4
namespace Ai9
noncomputable def sig : Sig := ⟨[qC, qC], [oB]⟩
noncomputable def cfg : Cfg := cl (cx [⟨101, Aa0.sig, Aa0.F⟩]) fun id => match id with | 2 => ([0, 1, 5], []) | _ => ([], [])
noncomputable def fin := finK cfg.c sig [.tmp 4]
noncomputable def F (d : LL × LL × Unit) : OB := anyK (a9q cfg fin (bd f203) (a5e sig.ps d 25))
variable (k : Nat) (x3 x4 : LL) (i5 : Int)
noncomputable def l2 : OB := Vm.runT cfg fin k [.inLoop (sub [1, 0, 1, 0, 0] (bd f203)), .inBlock 0, .code (sub [1, 1] (bd f203))] ⟨[.rptr false [cQ x3], .rptr false [cQ x4], dD, dD, dD, vI i5] ++ a8I 19, []⟩
theorem l2_eq : l2 (k + 1) x3 x4 i5 = if (decide (i5 < (x3.length : Int))) = true then if 0 ≤ i5 ∧ i5 < (x3.length : Int) then (Aa0.F (x4, x3.getD i5.toNat ([] : LI), ())).bind fun r6 => if (decide (r6.1.1 < 0)) = true then some ((false, ()), ()) else l2 k x3 x4 (IntKind.i64.wrap (i5 + 1)) else none else some ((true, ()), ()) := by kernel_rfl
variable (part_1 c_2 : LL)
noncomputable def T : OB := l2 k part_1 c_2 (0 : Int)
theorem of {r} (h : Ev (fun k => T k part_1 c_2) r) : F (part_1, c_2, ()) = some r := Ev.run (fun k => by kernel_rfl) h
theorem S : a3x prog ⟨203, sig, F⟩ := sound_k (res := [.tmp 4]) func203 (cok (cM ⟨Aa0.S, nM⟩))
end Ai9
namespace Ai8
noncomputable def sig : Sig := ⟨[qC, pI], [oC]⟩
noncomputable def cfg : Cfg := cl (cx [⟨152, Ab0.sig, Ab0.F⟩]) fun id => match id with | 3 => ([0, 1, 4, 5, 6], [16, 20]) | _ => ([], [])
noncomputable def fin := finK cfg.c sig [.cell 4 32]
noncomputable def F (d : LL × Int × Unit) : OQ := anyK (a9q cfg fin (bd f151) (a5e sig.ps d 43))
variable (k : Nat) (x3 : LL) (i4 i5 : Int) (x6 x7 : LL)
noncomputable def l3 : OQ := Vm.runT cfg fin k [.inLoop (sub [1, 1, 0, 1, 0, 0] (bd f151)), .inBlock 0, .code (sub [1, 1, 1] (bd f151))] ⟨[.rptr false [cQ x3], vI i4, dD, dD, .ref 16 (.root 0), .ref 20 (.root 0), vI i5] ++ a8I 36, [(16, ⟨true, [dQ x6]⟩), (20, ⟨true, [dQ x7]⟩)]⟩
theorem l3_eq : l3 (k + 1) x3 i4 i5 x6 x7 = if (decide (i5 < (x3.length : Int))) = true then if 0 ≤ i5 ∧ i5 < (x3.length : Int) then if (decide (((x3.getD i5.toNat ([] : LI)).length : Int) ≤ (IntKind.i64.wrap (i4 + 1)))) = true then if 0 ≤ i5 ∧ i5 < (x3.length : Int) then (Ab0.F (x3.getD i5.toNat ([] : LI), ())).bind fun r8 => if x7.length + [r8.1.1].length ≤ bigA then l3 k x3 i4 (IntKind.i64.wrap (i5 + 1)) x6 (x7 ++ [r8.1.1]) else none else none else l3 k x3 i4 (IntKind.i64.wrap (i5 + 1)) x6 x7 else none else some ((x7, ()), ()) := by kernel_rfl
variable (c_1 : LL) (dimension_2 : Int)
noncomputable def T : OQ := l3 k c_1 dimension_2 (0 : Int) ([] : LL) ([] : LL)
theorem of {r} (h : Ev (fun k => T k c_1 dimension_2) r) : F (c_1, dimension_2, ()) = some r := Ev.run (fun k => by kernel_rfl) h
theorem S : a3x prog ⟨151, sig, F⟩ := sound_k (res := [.cell 4 32]) func151 (cok (cM ⟨Ab0.S, nM⟩))
end Ai8
namespace Ae1
noncomputable def sig : Sig := ⟨[qC, pI, pL], [oS]⟩
noncomputable def cfg : Cfg := cl (cx [⟨115, Ab3.sig, Ab3.F⟩, ⟨151, Ai8.sig, Ai8.F⟩, ⟨152, Ab0.sig, Ab0.F⟩, ⟨207, Af4.sig, Af4.F⟩]) fun id => match id with | 3 => ([0, 1, 2, 6, 7, 8], [24, 28]) | 7 => ([0, 1, 2, 6, 7, 8, 9, 10], [24, 28, 36]) | _ => ([], [])
noncomputable def fin := finK cfg.c sig [.cell 6 46]
noncomputable def F (d : LL × Int × LI × Unit) : OS := anyK (a9q cfg fin (bd f130) (a5e sig.ps d 55))
variable (k : Nat) (x6 : LL) (i7 : Int) (x8 : LI) (i9 : Int) (x10 : LL) (i11 : Int) (x12 : LI) (x13 : LM) (x14 : LL) (i15 : Int) (x16 : LI) (x17 : LM)
noncomputable def l3 : OS := Vm.runT cfg fin k [.inLoop (sub [1, 1, 0, 1, 0, 0] (bd f130)), .inBlock 0, .code (sub [1, 1, 1] (bd f130))] ⟨[.rptr false [cQ x6], vI i7, vL x8, dD, dD, dD, .ref 24 (.root 0), .ref 28 (.root 0), vI i9] ++ a8I 46, [(24, ⟨true, [dQ x10, cI i11, dL x12, ⟨(.sl TMatrix), .deep, x13⟩]⟩), (28, ⟨true, [dQ x14, cI i15, dL x16, ⟨(.sl TMatrix), .deep, x17⟩]⟩)]⟩
variable (x19 : LL) (i20 : Int) (x21 : LI) (i22 i23 : Int) (x24 : LL) (i25 : Int) (x26 : LI) (x27 : LM) (x28 : LL) (i29 : Int) (x30 : LI) (x31 : LM) (x32 : LI)
noncomputable def l7 : OS := Vm.runT cfg fin k [.inLoop (sub [1, 1, 0, 1, 0, 0, 1, 0, 0, 1, 1, 0, 0] (bd f130)), .inBlock 2, .inBlock 1, .code (sub [1, 1, 0, 1, 0, 0, 1, 1] (bd f130)), .inLoop (sub [1, 1, 0, 1, 0, 0] (bd f130)), .inBlock 0, .code (sub [1, 1, 1] (bd f130))] ⟨[.rptr false [cQ x19], vI i20, vL x21, dD, dD, dD, .ref 24 (.root 0), .ref 28 (.root 0), vI i22, .view 36 (.root 0) 1 false, vI i23] ++ a8I 44, [(24, ⟨true, [dQ x24, cI i25, dL x26, ⟨(.sl TMatrix), .deep, x27⟩]⟩), (28, ⟨true, [dQ x28, cI i29, dL x30, ⟨(.sl TMatrix), .deep, x31⟩]⟩), (36, ⟨false, [dL x32]⟩)]⟩
theorem l3_eq : l3 (k + 1) x6 i7 x8 i9 x10 i11 x12 x13 x14 i15 x16 x17 = if (decide (i9 < (x6.length : Int))) = true then (Ab3.F (x6, i9, ())).bind fun r18 => l7 k x6 i7 x8 i9 (0 : Int) x10 i11 x12 x13 x14 i15 x16 x17 r18.1.1 else some (((x14, (i15, (x16, x17))), ()), ()) := by kernel_rfl
theorem l7_eq : l7 (k + 1) x19 i20 x21 i22 i23 x24 i25 x26 x27 x28 i29 x30 x31 x32 = if (decide (i23 < (x32.length : Int))) = true then if 0 ≤ i22 ∧ i22 < (x21.length : Int) then if 0 ≤ i23 ∧ i23 < (x32.length : Int) then if 0 ≤ (x32.getD i23.toNat 0 : Int) ∧ (x32.getD i23.toNat 0 : Int) < (x21.length : Int) then (Af4.F (i20, (x21.getD i22.toNat 0 : Int), x21.getD (x32.getD i23.toNat 0 : Int).toNat 0, ())).bind fun r33 => if x31.length + [r33.1.1].length ≤ bigA then l7 k x19 i20 x21 i22 (IntKind.i64.wrap (i23 + 1)) x24 i25 x26 x27 x28 i29 x30 (x31 ++ [r33.1.1]) x32 else none else none else none else none else l3 k x19 i20 x21 (IntKind.i64.wrap (i22 + 1)) x24 i25 x26 x27 x28 i29 x30 x31 := by kernel_rfl
variable (c_1 : LL) (p_2 : Int) (stalks_3 : LI)
noncomputable def T : OS := (Ai8.F (c_1, (3 : Int), ())).bind fun r4 => (Ab0.F (stalks_3, ())).bind fun r5 => l3 k c_1 p_2 stalks_3 (0 : Int) ([]) 0 ([]) ([]) r4.1.1 p_2 r5.1.1 ([] : LM)
theorem of {r} (h : Ev (fun k => T k c_1 p_2 stalks_3) r) : F (c_1, p_2, stalks_3, ()) = some r := Ev.run (fun k => by kernel_rfl) h
theorem S : a3x prog ⟨130, sig, F⟩ := sound_k (res := [.cell 6 46]) func130 (cok (cM ⟨Ab3.S, cM ⟨Ai8.S, cM ⟨Ab0.S, cM ⟨Af4.S, nM⟩⟩⟩⟩))
end Ae1
namespace Ad7
noncomputable def sig : Sig := ⟨[qS, qC, .val false .bool], [oS]⟩
noncomputable def cfg : Cfg := cl (cx [⟨101, Aa0.sig, Aa0.F⟩, ⟨130, Ae1.sig, Ae1.F⟩, ⟨152, Ab0.sig, Ab0.F⟩]) fun id => match id with | 3 => ([0, 1, 2, 6, 7, 8], [24, 28]) | 10 => ([0, 6, 9, 10], [24, 36]) | _ => ([], [])
noncomputable def fin := finK cfg.c sig [.cell 6 46]
noncomputable def F (d : SF × LL × Bool × Unit) : OS := anyK (a9q cfg fin (bd f204) (a5e sig.ps d 86))
variable (k : Nat) (x7 : LL) (i8 : Int) (x9 : LI) (x10 : LM) (x11 : LL) (b12 : Bool) (i13 : Int) (x14 : LL) (i15 : Int) (x16 : LI) (x17 : LM) (x18 : LI)
noncomputable def l3 : OS := Vm.runT cfg fin k [.inLoop (sub [1, 1, 0, 1, 0, 0] (bd f204)), .inBlock 0, .code (sub [1, 1, 1] (bd f204))] ⟨[.rptr false [cQ x7, cI i8, cL x9, ⟨(.sl TMatrix), .sh, x10⟩], .rptr false [cQ x11], .val false [⟨.bool, .sh, b12⟩], dD, dD, dD, .ref 24 (.root 0), .view 28 (.root 0) 1 false, vI i13] ++ a8I 77, [(24, ⟨true, [dQ x14, cI i15, dL x16, ⟨(.sl TMatrix), .deep, x17⟩]⟩), (28, ⟨false, [dL x18]⟩)]⟩
variable (x21 : LL) (i22 : Int) (x23 : LI) (x24 : LM) (i25 : Int) (x26 : LL) (i27 : Int) (x28 : LI) (x29 : LM) (x30 : LL) (i31 : Int) (x32 : LI) (x33 : LM)
noncomputable def l10 : OS := Vm.runT cfg fin k [.inLoop (sub [1, 1, 1, 1, 0, 1, 0, 0] (bd f204)), .inBlock 2, .code (sub [1, 1, 1, 1, 1] (bd f204))] ⟨[.rptr false [cQ x21, cI i22, cL x23, ⟨(.sl TMatrix), .sh, x24⟩], dD, dD, dD, dD, dD, .ref 24 (.root 0), dD, dD, .ref 36 (.root 0), vI i25] ++ a8I 75, [(24, ⟨true, [dQ x26, cI i27, dL x28, ⟨(.sl TMatrix), .deep, x29⟩]⟩), (36, ⟨true, [dQ x30, cI i31, dL x32, ⟨(.sl TMatrix), .deep, x33⟩]⟩)]⟩
theorem l3_eq : l3 (k + 1) x7 i8 x9 x10 x11 b12 i13 x14 i15 x16 x17 x18 = if (decide (i13 < (x9.length : Int))) = true then if 0 ≤ i13 ∧ i13 < (x7.length : Int) then (Aa0.F (x11, x7.getD i13.toNat ([] : LI), ())).bind fun r19 => if ((decide (r19.1.1 ≥ 0)) == b12) = true then if 0 ≤ i13 ∧ i13 < (x9.length : Int) then if x18.length + [(x9.getD i13.toNat 0 : Int)].length ≤ bigA then l3 k x7 i8 x9 x10 x11 b12 (IntKind.i64.wrap (i13 + 1)) x14 i15 x16 x17 (x18 ++ [(x9.getD i13.toNat 0 : Int)]) else none else none else if x18.length + ([(0 : Int)] : LI).length ≤ bigA then l3 k x7 i8 x9 x10 x11 b12 (IntKind.i64.wrap (i13 + 1)) x14 i15 x16 x17 (x18 ++ [(0 : Int)]) else none else none else (Ae1.F (x7, i8, x18, ())).bind fun r20 => l10 k x7 i8 x9 x10 (0 : Int) x14 i15 x16 x17 r20.1.1.1 r20.1.1.2.1 r20.1.1.2.2.1 r20.1.1.2.2.2 := by kernel_rfl
theorem l10_eq : l10 (k + 1) x21 i22 x23 x24 i25 x26 i27 x28 x29 x30 i31 x32 x33 = if (decide (i25 < (x33.length : Int))) = true then if 0 ≤ i25 ∧ i25 < (x33.length : Int) then if (decide ((((((x33.getD i25.toNat (0, 0, 0, ([] : LI))).2).2).2).length : Int) > 0)) = true then if 0 ≤ i25 ∧ i25 < (x24.length : Int) then (Ab0.F ((((x24.getD i25.toNat (0, 0, 0, ([] : LI))).2).2).2, ())).bind fun r34 => if 0 ≤ i25 ∧ i25 < (x33.length : Int) then let y35 : LM := x33.set i25.toNat ((x33.getD i25.toNat (0, 0, 0, ([] : LI))).1, (((x33.getD i25.toNat (0, 0, 0, ([] : LI))).2).1, ((((x33.getD i25.toNat (0, 0, 0, ([] : LI))).2).2).1, r34.1.1))); l10 k x21 i22 x23 x24 (IntKind.i64.wrap (i25 + 1)) x26 i27 x28 x29 x30 i31 x32 y35 else none else none else l10 k x21 i22 x23 x24 (IntKind.i64.wrap (i25 + 1)) x26 i27 x28 x29 x30 i31 x32 x33 else none else some (((x30, (i31, (x32, x33))), ()), ()) := by kernel_rfl
variable (toArray_1 : LL) (toArray_2 : Int) (toArray_3 : LI) (toArray_4 : LM) (a_5 : LL) (a_6 : Bool)
noncomputable def T : OS := l3 k toArray_1 toArray_2 toArray_3 toArray_4 a_5 a_6 (0 : Int) ([]) 0 ([]) ([]) ([] : LI)
theorem of {r} (h : Ev (fun k => T k toArray_1 toArray_2 toArray_3 toArray_4 a_5 a_6) r) : F ((toArray_1, (toArray_2, (toArray_3, toArray_4))), a_5, a_6, ()) = some r := Ev.run (fun k => by kernel_rfl) h
theorem S : a3x prog ⟨204, sig, F⟩ := sound_k (res := [.cell 6 46]) func204 (cok (cM ⟨Aa0.S, cM ⟨Ae1.S, cM ⟨Ab0.S, nM⟩⟩⟩))
end Ad7
namespace Am4
noncomputable def sig : Sig := ⟨[qS, qC, .val false .bool], [oS, oI]⟩
noncomputable def cfg : Cfg := cf (cx [⟨92, Aa2.sig, Aa2.F⟩, ⟨98, Ah4.sig, Ah4.F⟩, ⟨203, Ai9.sig, Ai9.F⟩, ⟨204, Ad7.sig, Ad7.F⟩])
noncomputable def fin := finK cfg.c sig [.cell 6 46, .tmp 7]
noncomputable def F (d : SF × LL × Bool × Unit) : Option ((SF × Int × Unit) × (Unit)) := anyK (a9q cfg fin (bd f108) (a5e sig.ps d 28))
variable (s_1 : LL) (s_2 : Int) (s_3 : LI) (s_4 : LM) (part_5 : LL) (in_6 : Bool)
noncomputable def T : Option ((SF × Int × Unit) × (Unit)) := (Ah4.F ((s_1, (s_2, (s_3, s_4))), ())).bind fun r7 => if (!r7.1.1) = true then some ((([], (0, ([], []))), ((1 : Int), ())), ()) else (Aa2.F (part_5, ())).bind fun r8 => if (!r8.1.1) = true then some ((([], (0, ([], []))), ((1 : Int), ())), ()) else (Ai9.F (part_5, s_1, ())).bind fun r9 => if (!r9.1.1) = true then some ((([], (0, ([], []))), ((6 : Int), ())), ()) else (Ad7.F ((s_1, (s_2, (s_3, s_4))), part_5, in_6, ())).bind fun r10 => some ((r10.1.1, ((0 : Int), ())), ())
theorem eq : F ((s_1, (s_2, (s_3, s_4))), part_5, in_6, ()) = T s_1 s_2 s_3 s_4 part_5 in_6 := eq_any fun k => by kernel_rfl
theorem S : a3x prog ⟨108, sig, F⟩ := sound_k (res := [.cell 6 46, .tmp 7]) func108 (cok (cM ⟨Aa2.S, cM ⟨Ah4.S, cM ⟨Ai9.S, cM ⟨Ad7.S, nM⟩⟩⟩⟩))
end Am4
namespace Ai5
noncomputable def sig : Sig := ⟨[pS, pC], [oS, oI]⟩
noncomputable def cfg : Cfg := cf (cx [⟨108, Am4.sig, Am4.F⟩])
noncomputable def fin := finK cfg.c sig [.cell 4 46, .tmp 5]
noncomputable def F (d : SF × LL × Unit) : Option ((SF × Int × Unit) × (Unit)) := anyK (a9q cfg fin (bd f50) (a5e sig.ps d 9))
variable (s_1 : LL) (s_2 : Int) (s_3 : LI) (s_4 : LM) (part_5 : LL)
noncomputable def T : Option ((SF × Int × Unit) × (Unit)) := (Am4.F ((s_1, (s_2, (s_3, s_4))), part_5, false, ())).bind fun r6 => some ((r6.1.1, (r6.1.2.1, ())), ())
theorem eq : F ((s_1, (s_2, (s_3, s_4))), part_5, ()) = T s_1 s_2 s_3 s_4 part_5 := eq_any fun k => by kernel_rfl
theorem S : a3x prog ⟨50, sig, F⟩ := sound_k (res := [.cell 4 46, .tmp 5]) func50 (cok (cM ⟨Am4.S, nM⟩))
end Ai5
namespace Ai4
noncomputable def sig : Sig := ⟨[pL, .fnx ⟨[(false, tI)], [oB]⟩], [oI]⟩
noncomputable def cfg : Cfg := cl (cx []) fun id => match id with | 2 => ([0, 1, 7, 8], []) | _ => ([], [])
noncomputable def fin := finK cfg.c sig [.tmp 4]
noncomputable def F (d : LI × ((Int × Unit) → Option (Bool × Unit)) × Unit) : OI := anyK (a9q cfg fin (bd f209) (a5e sig.ps d 19))
variable (k : Nat) (x3 : LI) (f4 : (Int × Unit) → Option (Bool × Unit)) (i5 i6 : Int)
noncomputable def l2 : OI := Vm.runT cfg fin k [.inLoop (sub [1, 0, 1, 0, 0] (bd f209)), .inBlock 0, .code (sub [1, 1] (bd f209))] ⟨[vL x3, .fnx ⟨[(false, tI)], [(.val false, .bool, .deep)]⟩ f4, dD, dD, dD, dD, dD, vI i5, vI i6] ++ a8I 10, []⟩
theorem l2_eq : l2 (k + 1) x3 f4 i5 i6 = if (decide (i6 < i5)) = true then if 0 ≤ i6 ∧ i6 < (x3.length : Int) then (f4 ((x3.getD i6.toNat 0 : Int), ())).bind fun r7 => if r7.1 = true then some ((i6, ()), ()) else l2 k x3 f4 i5 (IntKind.i64.wrap (i6 + 1)) else none else some (((-1 : Int), ()), ()) := by kernel_rfl
variable (s_1 : LI) (f_2 : (Int × Unit) → Option (Bool × Unit))
noncomputable def T : OI := l2 k s_1 f_2 (s_1.length : Int) (0 : Int)
theorem of {r} (h : Ev (fun k => T k s_1 f_2) r) : F (s_1, f_2, ()) = some r := Ev.run (fun k => by kernel_rfl) h
theorem S : a3x prog ⟨209, sig, F⟩ := sound_k (res := [.tmp 4]) func209 (cok nM)
end Ai4
namespace Ad0
noncomputable def sig : Sig := ⟨[pL, .fnx ⟨[(false, tI)], [oB]⟩], [oB]⟩
noncomputable def cfg : Cfg := cf (cx [⟨209, Ai4.sig, Ai4.F⟩])
noncomputable def fin := finK cfg.c sig [.tmp 4]
noncomputable def F (d : LI × ((Int × Unit) → Option (Bool × Unit)) × Unit) : OB := anyK (a9q cfg fin (bd f119) (a5e sig.ps d 9))
variable (s_1 : LI) (f_2 : (Int × Unit) → Option (Bool × Unit))
noncomputable def T : OB := (Ai4.F (s_1, f_2, ())).bind fun r3 => some ((decide (r3.1.1 ≥ 0), ()), ())
theorem eq : F (s_1, f_2, ()) = T s_1 f_2 := eq_any fun k => by kernel_rfl
theorem S : a3x prog ⟨119, sig, F⟩ := sound_k (res := [.tmp 4]) func119 (cok (cM ⟨Ai4.S, nM⟩))
end Ad0
namespace Ae5
noncomputable def sig : Sig := ⟨[pL], [oB]⟩
noncomputable def cfg : Cfg := cl (cx []) fun id => match id with | 2 => ([0, 3], []) | _ => ([], [])
noncomputable def fin := finK cfg.c sig [.tmp 2]
noncomputable def F (d : LI × Unit) : OB := anyK (a9q cfg fin (bd f267) (a5e sig.ps d 20))
variable (k : Nat) (x2 : LI) (i3 : Int)
noncomputable def l2 : OB := Vm.runT cfg fin k [.inLoop (sub [1, 0, 1, 0, 0] (bd f267)), .inBlock 0, .code (sub [1, 1] (bd f267))] ⟨[vL x2, dD, dD, vI i3] ++ a8I 16, []⟩
theorem l2_eq : l2 (k + 1) x2 i3 = if (decide (i3 < (x2.length : Int))) = true then if 0 ≤ (IntKind.i64.wrap (i3 - 1)) ∧ (IntKind.i64.wrap (i3 - 1)) < (x2.length : Int) then if 0 ≤ i3 ∧ i3 < (x2.length : Int) then if (decide ((x2.getD (IntKind.i64.wrap (i3 - 1)).toNat 0) ≥ (x2.getD i3.toNat 0 : Int))) = true then some ((false, ()), ()) else l2 k x2 (IntKind.i64.wrap (i3 + 1)) else none else none else some ((true, ()), ()) := by kernel_rfl
variable (list_1 : LI)
noncomputable def T : OB := l2 k list_1 (1 : Int)
theorem of {r} (h : Ev (fun k => T k list_1) r) : F (list_1, ()) = some r := Ev.run (fun k => by kernel_rfl) h
theorem S : a3x prog ⟨267, sig, F⟩ := sound_k (res := [.tmp 2]) func267 (cok nM)
end Ae5
namespace Aa4
noncomputable def sig : Sig := ⟨[pI, pI, pI], [oB]⟩
noncomputable def cfg : Cfg := cf (cx [])
noncomputable def fin := finK cfg.c sig [.tmp 6]
noncomputable def F (d : Int × Int × Int × Unit) : OB := anyK (a9q cfg fin (bd f121) (a5e sig.ps d 15))
variable (n_1 low_2 high_3 : Int)
noncomputable def T : OB := if (decide (n_1 ≥ low_2)) = true then some ((decide (n_1 ≤ high_3), ()), ()) else some ((false, ()), ())
theorem eq : F (n_1, low_2, high_3, ()) = T n_1 low_2 high_3 := eq_any fun k => by kernel_rfl
theorem S : a3x prog ⟨121, sig, F⟩ := sound_k (res := [.tmp 6]) func121 (cok nM)
end Aa4
namespace Am8
noncomputable def sig : Sig := ⟨[pI], [oB]⟩
noncomputable def cfg : Cfg := cf (cx [⟨121, Aa4.sig, Aa4.F⟩])
noncomputable def fin := finK cfg.c sig [.tmp 2]
noncomputable def F (d : Int × Unit) : OB := anyK (a9q cfg fin (bd f269) (a5e sig.ps d 5))
variable (v_1 : Int)
noncomputable def T : OB := (Aa4.F (v_1, (0 : Int), (9 : Int), ())).bind fun r2 => some ((r2.1.1, ()), ())
theorem eq : F (v_1, ()) = T v_1 := eq_any fun k => by kernel_rfl
theorem S : a3x prog ⟨269, sig, F⟩ := sound_k (res := [.tmp 2]) func269 (cok (cM ⟨Aa4.S, nM⟩))
end Am8
namespace Al9
noncomputable def sig : Sig := ⟨[pI], [oB]⟩
noncomputable def cfg : Cfg := cf (cx [⟨269, Am8.sig, Am8.F⟩])
noncomputable def fin := finK cfg.c sig [.tmp 2]
noncomputable def F (d : Int × Unit) : OB := anyK (a9q cfg fin (bd f268) (a5e sig.ps d 6))
variable (v_1 : Int)
noncomputable def T : OB := (Am8.F (v_1, ())).bind fun r2 => some ((!r2.1.1, ()), ())
theorem eq : F (v_1, ()) = T v_1 := eq_any fun k => by kernel_rfl
theorem S : a3x prog ⟨268, sig, F⟩ := sound_k (res := [.tmp 2]) func268 (cok (cM ⟨Am8.S, nM⟩))
noncomputable def cloG (y : Unit) (d : Int × Unit) : Option (Bool × Unit) := (F (a9c [] [(false, tI)] d y)).map (·.1)
noncomputable def clo : Clo := ⟨268, ⟨[(false, tI)], [(.val false, .bool, .deep)]⟩, [], cloG⟩
theorem cloS : a2b prog clo := sound_clo (s := ⟨[(false, tI)], [(.val false, .bool, .deep)]⟩) (caps := []) rfl S
end Al9
namespace Ak0
noncomputable def sig : Sig := ⟨[pL], [oB]⟩
noncomputable def cfg : Cfg := cf ⟨a2X tabl, [⟨119, Ad0.sig, Ad0.F⟩, ⟨267, Ae5.sig, Ae5.F⟩], [Al9.clo], [], [], []⟩
noncomputable def fin := finK cfg.c sig [.tmp 2]
noncomputable def F (d : LI × Unit) : OB := anyK (a9q cfg fin (bd f194) (a5e sig.ps d 20))
variable (s_1 : LI)
noncomputable def T : OB := if (decide ((s_1.length : Int) ≥ 1)) = true then if (decide ((s_1.length : Int) ≤ 4)) = true then (Ae5.F (s_1, ())).bind fun r2 => if r2.1.1 = true then (Ad0.F (s_1, Al9.cloG (()), ())).bind fun r3 => some ((!r3.1.1, ()), ()) else some ((false, ()), ()) else some ((false, ()), ()) else some ((false, ()), ())
theorem eq : F (s_1, ()) = T s_1 := eq_any fun k => by kernel_rfl
theorem S : a3x prog ⟨194, sig, F⟩ := sound_k (res := [.tmp 2]) func194 (⟨nM, mixed_ok, tab_ok tab_good, cM ⟨Ad0.S, cM ⟨Ae5.S, nM⟩⟩, cM ⟨Al9.cloS, nM⟩, nM⟩)
end Ak0
namespace Af7
noncomputable def sig : Sig := ⟨[pL], [oI]⟩
noncomputable def cfg : Cfg := cl (cx []) fun id => match id with | 3 => ([3, 6, 7, 8], []) | _ => ([], [])
noncomputable def fin := finK cfg.c sig [.tmp 2]
noncomputable def F (d : LI × Unit) : OI := anyK (a9q cfg fin (bd f270) (a5e sig.ps d 18))
variable (k : Nat) (i2 : Int) (x3 : LI) (i4 i5 : Int)
noncomputable def l3 : OI := Vm.runT cfg fin k [.inLoop (sub [1, 1, 0, 1, 0, 0] (bd f270)), .inBlock 0, .code (sub [1, 1, 1] (bd f270))] ⟨[dD, dD, dD, vI i2, dD, dD, vL x3, vI i4, vI i5] ++ a8I 9, []⟩
theorem l3_eq : l3 (k + 1) i2 x3 i4 i5 = if (decide (i5 < i4)) = true then if 0 ≤ i5 ∧ i5 < (x3.length : Int) then if ((x3.getD i5.toNat 0 : Int) != i2) = true then some (((x3.getD i5.toNat 0 : Int), ()), ()) else l3 k i2 x3 i4 (IntKind.i64.wrap (i5 + 1)) else none else some ((i2, ()), ()) := by kernel_rfl
variable (vals_1 : LI)
noncomputable def T : OI := l3 k (0 : Int) vals_1 (vals_1.length : Int) (0 : Int)
theorem of {r} (h : Ev (fun k => T k vals_1) r) : F (vals_1, ()) = some r := Ev.run (fun k => by kernel_rfl) h
theorem S : a3x prog ⟨270, sig, F⟩ := sound_k (res := [.tmp 2]) func270 (cok nM)
end Af7
namespace Aj5
noncomputable def sig : Sig := ⟨[pI], [oB]⟩
noncomputable def cfg : Cfg := cf (cx [])
noncomputable def fin := finK cfg.c sig [.tmp 2]
noncomputable def F (d : Int × Unit) : OB := anyK (a9q cfg fin (bd f291) (a5e sig.ps d 6))
variable (x_1 : Int)
noncomputable def T : OB := some ((x_1 != x_1, ()), ())
theorem eq : F (x_1, ()) = T x_1 := eq_any fun k => by kernel_rfl
theorem S : a3x prog ⟨291, sig, F⟩ := sound_k (res := [.tmp 2]) func291 (cok nM)
end Aj5
namespace Aj3
noncomputable def sig : Sig := ⟨[pI, pI], [oI]⟩
noncomputable def cfg : Cfg := cf (cx [⟨291, Aj5.sig, Aj5.F⟩])
noncomputable def fin := finK cfg.c sig [.tmp 4]
noncomputable def F (d : Int × Int × Unit) : OI := anyK (a9q cfg fin (bd f271) (a5e sig.ps d 20))
variable (x_1 y_2 : Int)
noncomputable def T : OI := (Aj5.F (x_1, ())).bind fun r3 => (Aj5.F (y_2, ())).bind fun r4 => if r3.1.1 = true then if r4.1.1 = true then some ((0, ()), ()) else some (((-1 : Int), ()), ()) else if r4.1.1 = true then some ((1, ()), ()) else if (decide (x_1 < y_2)) = true then some (((-1 : Int), ()), ()) else if (decide (x_1 > y_2)) = true then some ((1, ()), ()) else some ((0, ()), ())
theorem eq : F (x_1, y_2, ()) = T x_1 y_2 := eq_any fun k => by kernel_rfl
theorem S : a3x prog ⟨271, sig, F⟩ := sound_k (res := [.tmp 4]) func271 (cok (cM ⟨Aj5.S, nM⟩))
end Aj3
namespace Aj6
noncomputable def sig : Sig := ⟨[pI], [oB]⟩
noncomputable def cfg : Cfg := cf (cx [])
noncomputable def fin := finK cfg.c sig [.tmp 2]
noncomputable def F (d : Int × Unit) : OB := anyK (a9q cfg fin (bd f314) (a5e sig.ps d 6))
variable (x_1 : Int)
noncomputable def T : OB := some ((x_1 != x_1, ()), ())
theorem eq : F (x_1, ()) = T x_1 := eq_any fun k => by kernel_rfl
theorem S : a3x prog ⟨314, sig, F⟩ := sound_k (res := [.tmp 2]) func314 (cok nM)
end Aj6
namespace Aj4
noncomputable def sig : Sig := ⟨[pI, pI], [oI]⟩
noncomputable def cfg : Cfg := cf (cx [⟨314, Aj6.sig, Aj6.F⟩])
noncomputable def fin := finK cfg.c sig [.tmp 4]
noncomputable def F (d : Int × Int × Unit) : OI := anyK (a9q cfg fin (bd f292) (a5e sig.ps d 20))
variable (x_1 y_2 : Int)
noncomputable def T : OI := (Aj6.F (x_1, ())).bind fun r3 => (Aj6.F (y_2, ())).bind fun r4 => if r3.1.1 = true then if r4.1.1 = true then some ((0, ()), ()) else some (((-1 : Int), ()), ()) else if r4.1.1 = true then some ((1, ()), ()) else if (decide (x_1 < y_2)) = true then some (((-1 : Int), ()), ()) else if (decide (x_1 > y_2)) = true then some ((1, ()), ()) else some ((0, ()), ())
theorem eq : F (x_1, y_2, ()) = T x_1 y_2 := eq_any fun k => by kernel_rfl
theorem S : a3x prog ⟨292, sig, F⟩ := sound_k (res := [.tmp 4]) func292 (cok (cM ⟨Aj6.S, nM⟩))
end Aj4
namespace Ah3
noncomputable def sig : Sig := ⟨[pL, pL], [oI]⟩
noncomputable def cfg : Cfg := cl (cx [⟨292, Aj4.sig, Aj4.F⟩]) fun id => match id with | 2 => ([0, 1, 9, 10, 11], []) | _ => ([], [])
noncomputable def fin := finK cfg.c sig [.tmp 4]
noncomputable def F (d : LI × LI × Unit) : OI := anyK (a9q cfg fin (bd f272) (a5e sig.ps d 36))
variable (k : Nat) (x3 x4 x5 : LI) (i6 i7 : Int)
noncomputable def l2 : OI := Vm.runT cfg fin k [.inLoop (sub [1, 0, 1, 0, 0] (bd f272)), .inBlock 0, .code (sub [1, 1] (bd f272))] ⟨[vL x3, vL x4, dD, dD, dD, dD, dD, dD, dD, vL x5, vI i6, vI i7] ++ a8I 24, []⟩
theorem l2_eq : l2 (k + 1) x3 x4 x5 i6 i7 = if (decide (i7 < i6)) = true then if 0 ≤ i7 ∧ i7 < (x5.length : Int) then if (decide (i7 ≥ (x4.length : Int))) = true then some ((1, ()), ()) else if 0 ≤ i7 ∧ i7 < (x4.length : Int) then (Aj4.F ((x5.getD i7.toNat 0 : Int), (x4.getD i7.toNat 0 : Int), ())).bind fun r8 => if (r8.1.1 != 0) = true then some ((r8.1.1, ()), ()) else l2 k x3 x4 x5 i6 (IntKind.i64.wrap (i7 + 1)) else none else none else if (decide ((x3.length : Int) < (x4.length : Int))) = true then some (((-1 : Int), ()), ()) else some ((0, ()), ()) := by kernel_rfl
variable (s1_1 s2_2 : LI)
noncomputable def T : OI := l2 k s1_1 s2_2 s1_1 (s1_1.length : Int) (0 : Int)
theorem of {r} (h : Ev (fun k => T k s1_1 s2_2) r) : F (s1_1, s2_2, ()) = some r := Ev.run (fun k => by kernel_rfl) h
theorem S : a3x prog ⟨272, sig, F⟩ := sound_k (res := [.tmp 4]) func272 (cok (cM ⟨Aj4.S, nM⟩))
end Ah3
namespace Aa9
noncomputable def sig : Sig := ⟨[pL, pL], [oI]⟩
noncomputable def cfg : Cfg := cf (cx [⟨270, Af7.sig, Af7.F⟩, ⟨271, Aj3.sig, Aj3.F⟩, ⟨272, Ah3.sig, Ah3.F⟩])
noncomputable def fin := finK cfg.c sig [.tmp 4]
noncomputable def F (d : LI × LI × Unit) : OI := anyK (a9q cfg fin (bd f195) (a5e sig.ps d 15))
variable (a_1 b_2 : LI)
noncomputable def T : OI := (Aj3.F ((a_1.length : Int), (b_2.length : Int), ())).bind fun r3 => (Ah3.F (a_1, b_2, ())).bind fun r4 => (Af7.F ([r3.1.1, r4.1.1], ())).bind fun r5 => some ((r5.1.1, ()), ())
theorem eq : F (a_1, b_2, ()) = T a_1 b_2 := eq_any fun k => by kernel_rfl
theorem S : a3x prog ⟨195, sig, F⟩ := sound_k (res := [.tmp 4]) func195 (cok (cM ⟨Af7.S, cM ⟨Aj3.S, cM ⟨Ah3.S, nM⟩⟩⟩))
noncomputable def cloG (y : Unit) (d : LI × LI × Unit) : Option (Int × Unit) := (F (a9c [] [(false, tL), (false, tL)] d y)).map (·.1)
noncomputable def clo : Clo := ⟨195, ⟨[(false, tL), (false, tL)], [(.val false, tI, .deep)]⟩, [], cloG⟩
theorem cloS : a2b prog clo := sound_clo (s := ⟨[(false, tL), (false, tL)], [(.val false, tI, .deep)]⟩) (caps := []) rfl S
end Aa9
namespace Ai3
noncomputable def sig : Sig := ⟨[pQ, .fnx ⟨[(false, tL)], [oB]⟩], [oI]⟩
noncomputable def cfg : Cfg := cl (cx []) fun id => match id with | 2 => ([0, 1, 7, 8], []) | _ => ([], [])
noncomputable def fin := finK cfg.c sig [.tmp 4]
noncomputable def F (d : LL × ((LI × Unit) → Option (Bool × Unit)) × Unit) : OI := anyK (a9q cfg fin (bd f239) (a5e sig.ps d 19))
variable (k : Nat) (x3 : LL) (f4 : (LI × Unit) → Option (Bool × Unit)) (i5 i6 : Int)
noncomputable def l2 : OI := Vm.runT cfg fin k [.inLoop (sub [1, 0, 1, 0, 0] (bd f239)), .inBlock 0, .code (sub [1, 1] (bd f239))] ⟨[vQ x3, .fnx ⟨[(false, tL)], [(.val false, .bool, .deep)]⟩ f4, dD, dD, dD, dD, dD, vI i5, vI i6] ++ a8I 10, []⟩
theorem l2_eq : l2 (k + 1) x3 f4 i5 i6 = if (decide (i6 < i5)) = true then if 0 ≤ i6 ∧ i6 < (x3.length : Int) then (f4 (x3.getD i6.toNat ([] : LI), ())).bind fun r7 => if r7.1 = true then some ((i6, ()), ()) else l2 k x3 f4 i5 (IntKind.i64.wrap (i6 + 1)) else none else some (((-1 : Int), ()), ()) := by kernel_rfl
variable (s_1 : LL) (f_2 : (LI × Unit) → Option (Bool × Unit))
noncomputable def T : OI := l2 k s_1 f_2 (s_1.length : Int) (0 : Int)
theorem of {r} (h : Ev (fun k => T k s_1 f_2) r) : F (s_1, f_2, ()) = some r := Ev.run (fun k => by kernel_rfl) h
theorem S : a3x prog ⟨239, sig, F⟩ := sound_k (res := [.tmp 4]) func239 (cok nM)
end Ai3
namespace Ad8
noncomputable def sig : Sig := ⟨[pQ, .fnx ⟨[(false, tL)], [oB]⟩], [oB]⟩
noncomputable def cfg : Cfg := cf (cx [⟨239, Ai3.sig, Ai3.F⟩])
noncomputable def fin := finK cfg.c sig [.tmp 4]
noncomputable def F (d : LL × ((LI × Unit) → Option (Bool × Unit)) × Unit) : OB := anyK (a9q cfg fin (bd f196) (a5e sig.ps d 9))
variable (s_1 : LL) (f_2 : (LI × Unit) → Option (Bool × Unit))
noncomputable def T : OB := (Ai3.F (s_1, f_2, ())).bind fun r3 => some ((decide (r3.1.1 ≥ 0), ()), ())
theorem eq : F (s_1, f_2, ()) = T s_1 f_2 := eq_any fun k => by kernel_rfl
theorem S : a3x prog ⟨196, sig, F⟩ := sound_k (res := [.tmp 4]) func196 (cok (cM ⟨Ai3.S, nM⟩))
end Ad8
namespace Ad5
noncomputable def sig : Sig := ⟨[pQ], [oL]⟩
noncomputable def cfg : Cfg := cl (⟨a2X tabl, [], [], [], [(293, tI)], []⟩) fun id => match id with | 3 => ([0, 3, 9, 10, 11], []) | 11 => ([6, 25, 26, 27], [24]) | _ => ([], [])
noncomputable def fin := finK cfg.c sig [.tmp 2]
noncomputable def F (d : LL × Unit) : OL := anyK (a9q cfg fin (bd f273) (a5e sig.ps d 36))
variable (k : Nat) (x2 : LL) (i3 : Int) (x4 : LL) (i5 i6 : Int)
noncomputable def l3 : OL := Vm.runT cfg fin k [.inLoop (sub [1, 1, 0, 1, 0, 0] (bd f273)), .inBlock 0, .code (sub [1, 1, 1] (bd f273))] ⟨[vQ x2, dD, dD, vI i3, dD, dD, dD, dD, dD, vQ x4, vI i5, vI i6] ++ a8I 24, []⟩
variable (x7 : LL) (i8 i9 : Int) (x10 : LI)
noncomputable def l11 : OL := Vm.runT cfg fin k [.inLoop (sub [1, 1, 1, 1, 0, 1, 0, 0] (bd f273)), .inBlock 2, .code (sub [1, 1, 1, 1, 1] (bd f273))] ⟨[dD, dD, dD, dD, dD, dD, .view 24 (.root 0) 1 false, dD, dD, dD, dD, dD, dD, dD, dD, dD, dD, dD, dD, dD, dD, dD, dD, dD, dD, vQ x7, vI i8, vI i9] ++ a8I 8, [(24, ⟨false, [dL x10]⟩)]⟩
theorem l3_eq : l3 (k + 1) x2 i3 x4 i5 i6 = if (decide (i6 < i5)) = true then if 0 ≤ i6 ∧ i6 < (x4.length : Int) then if (decide ((IntKind.i64.wrap (i3 + ((x4.getD i6.toNat ([] : LI)).length : Int))) < 0)) = true then none else l3 k x2 (IntKind.i64.wrap (i3 + ((x4.getD i6.toNat ([] : LI)).length : Int))) x4 i5 (IntKind.i64.wrap (i6 + 1)) else none else if 0 ≤ i3 ∧ i3 ≤ (bigN : Int) then l11 k x2 (x2.length : Int) (0 : Int) ([] : LI) else none := by kernel_rfl
theorem l11_eq : l11 (k + 1) x7 i8 i9 x10 = if (decide (i9 < i8)) = true then if 0 ≤ i9 ∧ i9 < (x7.length : Int) then if x10.length + (x7.getD i9.toNat ([] : LI)).length ≤ bigA then l11 k x7 i8 (IntKind.i64.wrap (i9 + 1)) (x10 ++ (x7.getD i9.toNat ([] : LI))) else none else none else some ((x10, ()), ()) := by kernel_rfl
variable (slices_1 : LL)
noncomputable def T : OL := l3 k slices_1 (0 : Int) slices_1 (slices_1.length : Int) (0 : Int)
theorem of {r} (h : Ev (fun k => T k slices_1) r) : F (slices_1, ()) = some r := Ev.run (fun k => by kernel_rfl) h
theorem S : a3x prog ⟨273, sig, F⟩ := sound_k (res := [.tmp 2]) func273 (⟨nM, mixed_ok, tab_ok tab_good, nM, nM, cM ⟨slices_Grow_Lint64_int64.growOK, nM⟩⟩)
end Ad5
namespace Ab9
noncomputable def sig : Sig := ⟨[pL], [oQ]⟩
noncomputable def cfg : Cfg := cl (cx [⟨273, Ad5.sig, Ad5.F⟩]) fun id => match id with | 3 => ([0, 3, 6, 7], [12]) | _ => ([], [])
noncomputable def fin := finK cfg.c sig [.tmp 2]
noncomputable def F (d : LI × Unit) : OQ := anyK (a9q cfg fin (bd f197) (a5e sig.ps d 27))
variable (k : Nat) (x2 : LI) (i3 i4 : Int) (x5 : LL)
noncomputable def l3 : OQ := Vm.runT cfg fin k [.inLoop (sub [1, 1, 0, 1, 0, 0] (bd f197)), .inBlock 0, .code (sub [1, 1, 1] (bd f197))] ⟨[vL x2, dD, dD, .view 12 (.root 0) 1 false, dD, dD, vI i3, vI i4] ++ a8I 19, [(12, ⟨false, [dQ x5]⟩)]⟩
theorem l3_eq : l3 (k + 1) x2 i3 i4 x5 = if (decide (i4 < i3)) = true then if (decide ((x2.length : Int) > 1)) = true then if 0 ≤ (0 : Int) ∧ (0 : Int) ≤ i4 ∧ i4 ≤ (x2.length : Int) then if 0 ≤ (IntKind.i64.wrap (i4 + 1)) ∧ (IntKind.i64.wrap (i4 + 1)) ≤ (x2.length : Int) ∧ (x2.length : Int) ≤ (x2.length : Int) then (Ad5.F ([cutL x2 (0 : Int) i4, cutL x2 (IntKind.i64.wrap (i4 + 1)) (x2.length : Int)], ())).bind fun r6 => if x5.length + [r6.1.1].length ≤ bigA then l3 k x2 i3 (IntKind.i64.wrap (i4 + 1)) (x5 ++ [r6.1.1]) else none else none else none else l3 k x2 i3 (IntKind.i64.wrap (i4 + 1)) x5 else some ((x5, ()), ()) := by kernel_rfl
variable (s_1 : LI)
noncomputable def T : OQ := l3 k s_1 (s_1.length : Int) (0 : Int) ([])
theorem of {r} (h : Ev (fun k => T k s_1) r) : F (s_1, ()) = some r := Ev.run (fun k => by kernel_rfl) h
theorem S : a3x prog ⟨197, sig, F⟩ := sound_k (res := [.tmp 2]) func197 (cok (cM ⟨Ad5.S, nM⟩))
end Ab9
namespace Al0
noncomputable def sig : Sig := ⟨[pQ, pL, .fnx ⟨[(false, tL), (false, tL)], [oI]⟩], [oI, oB]⟩
noncomputable def cfg : Cfg := cl (cx []) fun id => match id with | 3 => ([0, 1, 2, 8, 9, 10], []) | _ => ([], [])
noncomputable def fin := finK cfg.c sig [.tmp 6, .tmp 7]
noncomputable def F (d : LL × LI × ((LI × LI × Unit) → Option (Int × Unit)) × Unit) : Option ((Int × Bool × Unit) × (Unit)) := anyK (a9q cfg fin (bd f202) (a5e sig.ps d 49))
variable (k : Nat) (x4 : LL) (x5 : LI) (f6 : (LI × LI × Unit) → Option (Int × Unit)) (i7 i8 i9 : Int)
noncomputable def l3 : Option ((Int × Bool × Unit) × (Unit)) := Vm.runT cfg fin k [.inLoop (sub [1, 1, 1, 0, 0, 0] (bd f202)), .inBlock 0, .code (sub [1, 1, 1, 1] (bd f202))] ⟨[vQ x4, vL x5, .fnx ⟨[(false, tL), (false, tL)], [(.val false, tI, .deep)]⟩ f6, dD, dD, dD, dD, dD, vI i7, vI i8, vI i9] ++ a8I 38, []⟩
theorem l3_eq : l3 (k + 1) x4 x5 f6 i7 i8 i9 = if (decide (i8 < i9)) = true then if (1 : Int) < 0 then none else if 0 ≤ (IntKind.i64.wrap ((IntKind.u64.wrap (IntKind.i64.wrap (i8 + i9))).fdiv (2 ^ (min (1 : Int).toNat IntKind.u64.bits)))) ∧ (IntKind.i64.wrap ((IntKind.u64.wrap (IntKind.i64.wrap (i8 + i9))).fdiv (2 ^ (min (1 : Int).toNat IntKind.u64.bits)))) < (x4.length : Int) then (f6 (x4.getD (IntKind.i64.wrap ((IntKind.u64.wrap (IntKind.i64.wrap (i8 + i9))).fdiv (2 ^ (min (1 : Int).toNat IntKind.u64.bits)))).toNat ([] : LI), x5, ())).bind fun r10 => if (decide (r10.1 < 0)) = true then l3 k x4 x5 f6 i7 (IntKind.i64.wrap ((IntKind.i64.wrap ((IntKind.u64.wrap (IntKind.i64.wrap (i8 + i9))).fdiv (2 ^ (min (1 : Int).toNat IntKind.u64.bits)))) + 1)) i9 else l3 k x4 x5 f6 i7 i8 (IntKind.i64.wrap ((IntKind.u64.wrap (IntKind.i64.wrap (i8 + i9))).fdiv (2 ^ (min (1 : Int).toNat IntKind.u64.bits)))) else none else if (decide (i8 < i7)) = true then if 0 ≤ i8 ∧ i8 < (x4.length : Int) then (f6 (x4.getD i8.toNat ([] : LI), x5, ())).bind fun r11 => some ((i8, (r11.1 == (0 : Int), ())), ()) else none else some ((i8, (false, ())), ()) := by kernel_rfl
variable (x_1 : LL) (target_2 : LI) (f_3 : (LI × LI × Unit) → Option (Int × Unit))
noncomputable def T : Option ((Int × Bool × Unit) × (Unit)) := l3 k x_1 target_2 f_3 (x_1.length : Int) (0 : Int) (x_1.length : Int)
theorem of {r} (h : Ev (fun k => T k x_1 target_2 f_3) r) : F (x_1, target_2, f_3, ()) = some r := Ev.run (fun k => by kernel_rfl) h
theorem S : a3x prog ⟨202, sig, F⟩ := sound_k (res := [.tmp 6, .tmp 7]) func202 (cok nM)
end Al0
namespace Aa5
noncomputable def sig : Sig := ⟨[pC, pL], [oI]⟩
noncomputable def cfg : Cfg := cf ⟨a2X tabl, [⟨202, Al0.sig, Al0.F⟩], [Aa9.clo], [], [], []⟩
noncomputable def fin := finK cfg.c sig [.tmp 4]
noncomputable def F (d : LL × LI × Unit) : OI := anyK (a9q cfg fin (bd f107) (a5e sig.ps d 17))
variable (c_1 : LL) (s_2 : LI)
noncomputable def T : OI := (Al0.F (c_1, s_2, Aa9.cloG (()), ())).bind fun r3 => if (!r3.1.2.1) = true then some (((-1 : Int), ()), ()) else some ((r3.1.1, ()), ())
theorem eq : F (c_1, s_2, ()) = T c_1 s_2 := eq_any fun k => by kernel_rfl
theorem S : a3x prog ⟨107, sig, F⟩ := sound_k (res := [.tmp 4]) func107 (⟨nM, mixed_ok, tab_ok tab_good, cM ⟨Al0.S, nM⟩, cM ⟨Aa9.cloS, nM⟩, nM⟩)
end Aa5
namespace Aj8
noncomputable def sig : Sig := ⟨[pL, qC, .rptr tI], [oB]⟩
noncomputable def cfg : Cfg := cf (cx [⟨107, Aa5.sig, Aa5.F⟩])
noncomputable def fin := finK cfg.c sig [.tmp 4]
noncomputable def F (d : LI × LL × Int × Unit) : OB := anyK (a9q cfg fin (bd f198) (a5e sig.ps d 13))
variable (f_1 : LI) (a_2 : LL) (a_3 : Int)
noncomputable def T : OB := if 0 ≤ (0 : Int) ∧ (0 : Int) ≤ a_3 ∧ a_3 ≤ (a_2.length : Int) then (Aa5.F (cutL a_2 (0 : Int) a_3, f_1, ())).bind fun r4 => some ((decide (r4.1.1 < 0), ()), ()) else none
theorem eq : F (f_1, a_2, a_3, ()) = T f_1 a_2 a_3 := eq_any fun k => by kernel_rfl
theorem S : a3x prog ⟨198, sig, F⟩ := sound_k (res := [.tmp 4]) func198 (cok (cM ⟨Aa5.S, nM⟩))
noncomputable def cloG (y : LL × Int × Unit) (d : LI × Unit) : Option (Bool × Unit) := (F (a9c [.rptr tQ, .rptr tI] [(false, tL)] d y)).map (·.1)
noncomputable def clo : Clo := ⟨198, ⟨[(false, tL)], [(.val false, .bool, .deep)]⟩, [.rptr tQ, .rptr tI], cloG⟩
theorem cloS : a2b prog clo := sound_clo (s := ⟨[(false, tL)], [(.val false, .bool, .deep)]⟩) (caps := [.rptr tQ, .rptr tI]) rfl S
end Aj8
namespace Ac7
noncomputable def sig : Sig := ⟨[pC], [oB]⟩
noncomputable def cfg : Cfg := cl (⟨a2X tabl, [⟨194, Ak0.sig, Ak0.F⟩, ⟨195, Aa9.sig, Aa9.F⟩, ⟨196, Ad8.sig, Ad8.F⟩, ⟨197, Ab9.sig, Ab9.F⟩], [Aj8.clo], [], [], []⟩) fun id => match id with | 2 => ([1, 6, 7, 8], [4]) | _ => ([], [])
noncomputable def fin := finK cfg.c sig [.tmp 2]
noncomputable def F (d : LL × Unit) : OB := anyK (a9q cfg fin (bd f104) (a5e sig.ps d 40))
variable (k : Nat) (x2 : LL) (i3 i4 : Int) (x5 : LL)
noncomputable def l2 : OB := Vm.runT cfg fin k [.inLoop (sub [1, 0, 1, 0, 0] (bd f104)), .inBlock 0, .code (sub [1, 1] (bd f104))] ⟨[dD, .ref 4 (.root 0), dD, dD, dD, dD, vQ x2, vI i3, vI i4] ++ a8I 31, [(4, ⟨true, [cQ x5]⟩)]⟩
theorem l2_eq : l2 (k + 1) x2 i3 i4 x5 = if (decide (i4 < i3)) = true then if 0 ≤ i4 ∧ i4 < (x2.length : Int) then (Ak0.F (x2.getD i4.toNat ([] : LI), ())).bind fun r6 => if (!r6.1.1) = true then some ((false, ()), ()) else if (decide (i4 > 0)) = true then if 0 ≤ (IntKind.i64.wrap (i4 - 1)) ∧ (IntKind.i64.wrap (i4 - 1)) < (x5.length : Int) then (Aa9.F (x5.getD (IntKind.i64.wrap (i4 - 1)).toNat ([] : LI), x2.getD i4.toNat ([] : LI), ())).bind fun r7 => if (decide (r7.1.1 ≥ 0)) = true then some ((false, ()), ()) else (Ab9.F (x2.getD i4.toNat ([] : LI), ())).bind fun r8 => (Ad8.F (r8.1.1, Aj8.cloG (x5, i4, ()), ())).bind fun r9 => if r9.1.1 = true then some ((false, ()), ()) else l2 k x2 i3 (IntKind.i64.wrap (i4 + 1)) x5 else none else (Ab9.F (x2.getD i4.toNat ([] : LI), ())).bind fun r10 => (Ad8.F (r10.1.1, Aj8.cloG (x5, i4, ()), ())).bind fun r11 => if r11.1.1 = true then some ((false, ()), ()) else l2 k x2 i3 (IntKind.i64.wrap (i4 + 1)) x5 else none else some ((decide ((x5.length : Int) ≤ 48), ()), ()) := by kernel_rfl
variable (c_1 : LL)
noncomputable def T : OB := l2 k c_1 (c_1.length : Int) (0 : Int) c_1
theorem of {r} (h : Ev (fun k => T k c_1) r) : F (c_1, ()) = some r := Ev.run (fun k => by kernel_rfl) h
theorem S : a3x prog ⟨104, sig, F⟩ := sound_k (res := [.tmp 2]) func104 (⟨nM, mixed_ok, tab_ok tab_good, cM ⟨Ak0.S, cM ⟨Aa9.S, cM ⟨Ad8.S, cM ⟨Ab9.S, nM⟩⟩⟩⟩, cM ⟨Aj8.cloS, nM⟩, nM⟩)
end Ac7
namespace Ad2
noncomputable def sig : Sig := ⟨[pL], [oI]⟩
noncomputable def cfg : Cfg := cf (cx [])
noncomputable def fin := finK cfg.c sig [.tmp 2]
noncomputable def F (d : LI × Unit) : OI := anyK (a9q cfg fin (bd f161) (a5e sig.ps d 5))
variable (list_1 : LI)
noncomputable def T : OI := some (((list_1.length : Int), ()), ())
theorem eq : F (list_1, ()) = T list_1 := eq_any fun k => by kernel_rfl
theorem S : a3x prog ⟨161, sig, F⟩ := sound_k (res := [.tmp 2]) func161 (cok nM)
end Ad2
namespace Ai0
noncomputable def sig : Sig := ⟨[pC, pI], [oL]⟩
noncomputable def cfg : Cfg := cl (cx [⟨161, Ad2.sig, Ad2.F⟩]) fun id => match id with | 3 => ([1, 5, 9, 10, 11], [20]) | _ => ([], [])
noncomputable def fin := finK cfg.c sig [.tmp 4]
noncomputable def F (d : LL × Int × Unit) : OL := anyK (a9q cfg fin (bd f79) (a5e sig.ps d 27))
variable (k : Nat) (i3 : Int) (x4 : LL) (i5 i6 : Int) (x7 : LI)
noncomputable def l3 : OL := Vm.runT cfg fin k [.inLoop (sub [1, 1, 0, 1, 0, 0] (bd f79)), .inBlock 0, .code (sub [1, 1, 1] (bd f79))] ⟨[dD, vI i3, dD, dD, dD, .view 20 (.root 0) 1 false, dD, dD, dD, vQ x4, vI i5, vI i6] ++ a8I 15, [(20, ⟨false, [dL x7]⟩)]⟩
theorem l3_eq : l3 (k + 1) i3 x4 i5 i6 x7 = if (decide (i6 < i5)) = true then if 0 ≤ i6 ∧ i6 < (x4.length : Int) then (Ad2.F (x4.getD i6.toNat ([] : LI), ())).bind fun r8 => if (r8.1.1 == (IntKind.i64.wrap (i3 + 1))) = true then if x7.length + [i6].length ≤ bigA then l3 k i3 x4 i5 (IntKind.i64.wrap (i6 + 1)) (x7 ++ [i6]) else none else l3 k i3 x4 i5 (IntKind.i64.wrap (i6 + 1)) x7 else none else some ((x7, ()), ()) := by kernel_rfl
variable (c_1 : LL) (dimension_2 : Int)
noncomputable def T : OL := l3 k dimension_2 c_1 (c_1.length : Int) (0 : Int) ([])
theorem of {r} (h : Ev (fun k => T k c_1 dimension_2) r) : F (c_1, dimension_2, ()) = some r := Ev.run (fun k => by kernel_rfl) h
theorem S : a3x prog ⟨79, sig, F⟩ := sound_k (res := [.tmp 4]) func79 (cok (cM ⟨Ad2.S, nM⟩))
end Ai0
namespace Ag0
noncomputable def sig : Sig := ⟨[pS, pI], [oI]⟩
noncomputable def cfg : Cfg := cl (cx [⟨79, Ai0.sig, Ai0.F⟩]) fun id => match id with | 3 => ([2, 5, 11, 12, 13], [8, 44]) | _ => ([], [])
noncomputable def fin := finK cfg.c sig [.tmp 4]
noncomputable def F (d : SF × Int × Unit) : OI := anyK (a9q cfg fin (bd f68) (a5e sig.ps d 26))
variable (k : Nat) (i7 i8 i9 : Int) (x10 : LL) (i11 : Int) (x12 : LI) (x13 : LM) (x14 : LI)
noncomputable def l3 : OI := Vm.runT cfg fin k [.inLoop (sub [1, 1, 0, 1, 0, 0] (bd f68)), .inBlock 0, .code (sub [1, 1, 1] (bd f68))] ⟨[dD, dD, .ref 8 (.root 0), dD, dD, vI i7, dD, dD, dD, dD, dD, .view 44 (.root 0) 1 false, vI i8, vI i9] ++ a8I 12, [(8, ⟨true, [cQ x10, cI i11, cL x12, ⟨(.sl TMatrix), .sh, x13⟩]⟩), (44, ⟨false, [dL x14]⟩)]⟩
theorem l3_eq : l3 (k + 1) i7 i8 i9 x10 i11 x12 x13 x14 = if (decide (i9 < i8)) = true then if 0 ≤ i9 ∧ i9 < (x14.length : Int) then if 0 ≤ (x14.getD i9.toNat 0 : Int) ∧ (x14.getD i9.toNat 0 : Int) < (x12.length : Int) then l3 k (IntKind.i64.wrap (i7 + (x12.getD (x14.getD i9.toNat 0 : Int).toNat 0))) i8 (IntKind.i64.wrap (i9 + 1)) x10 i11 x12 x13 x14 else none else none else some ((i7, ()), ()) := by kernel_rfl
variable (s_1 : LL) (s_2 : Int) (s_3 : LI) (s_4 : LM) (k_5 : Int)
noncomputable def T : OI := (Ai0.F (s_1, k_5, ())).bind fun r6 => l3 k (0 : Int) (r6.1.1.length : Int) (0 : Int) s_1 s_2 s_3 s_4 r6.1.1
theorem of {r} (h : Ev (fun k => T k s_1 s_2 s_3 s_4 k_5) r) : F ((s_1, (s_2, (s_3, s_4))), k_5, ()) = some r := Ev.run (fun k => by kernel_rfl) h
theorem S : a3x prog ⟨68, sig, F⟩ := sound_k (res := [.tmp 4]) func68 (cok (cM ⟨Ai0.S, nM⟩))
end Ag0
namespace Am0
noncomputable def sig : Sig := ⟨[pI], [oB]⟩
noncomputable def cfg : Cfg := cf (cx [⟨121, Aa4.sig, Aa4.F⟩])
noncomputable def fin := finK cfg.c sig [.tmp 2]
noncomputable def F (d : Int × Unit) : OB := anyK (a9q cfg fin (bd f220) (a5e sig.ps d 6))
variable (n_1 : Int)
noncomputable def T : OB := (Aa4.F (n_1, (0 : Int), (3 : Int), ())).bind fun r2 => some ((!r2.1.1, ()), ())
theorem eq : F (n_1, ()) = T n_1 := eq_any fun k => by kernel_rfl
theorem S : a3x prog ⟨220, sig, F⟩ := sound_k (res := [.tmp 2]) func220 (cok (cM ⟨Aa4.S, nM⟩))
noncomputable def cloG (y : Unit) (d : Int × Unit) : Option (Bool × Unit) := (F (a9c [] [(false, tI)] d y)).map (·.1)
noncomputable def clo : Clo := ⟨220, ⟨[(false, tI)], [(.val false, .bool, .deep)]⟩, [], cloG⟩
theorem cloS : a2b prog clo := sound_clo (s := ⟨[(false, tI)], [(.val false, .bool, .deep)]⟩) (caps := []) rfl S
end Am0
namespace Ad4
noncomputable def sig : Sig := ⟨[pC, pL], [oB]⟩
noncomputable def cfg : Cfg := cl (⟨a2X tabl, [⟨68, Ag0.sig, Ag0.F⟩, ⟨119, Ad0.sig, Ad0.F⟩], [Am0.clo], [], [], []⟩) fun id => match id with | 4 => ([1, 2, 16], [8]) | _ => ([], [])
noncomputable def fin := finK cfg.c sig [.tmp 4]
noncomputable def F (d : LL × LI × Unit) : OB := anyK (a9q cfg fin (bd f133) (a5e sig.ps d 26))
variable (k : Nat) (x4 : LI) (i5 : Int) (x6 : LL)
noncomputable def l4 : OB := Vm.runT cfg fin k [.inLoop (sub [1, 1, 0, 1, 0, 0] (bd f133)), .inBlock 0, .code (sub [1, 1, 1] (bd f133))] ⟨[dD, vL x4, .ref 8 (.root 0), dD, dD, dD, dD, dD, dD, dD, dD, dD, dD, dD, dD, dD, vI i5] ++ a8I 9, [(8, ⟨true, [cQ x6]⟩)]⟩
theorem l4_eq : l4 (k + 1) x4 i5 x6 = if (decide (i5 < 4)) = true then (Ag0.F ((x6, (0, (x4, []))), i5, ())).bind fun r7 => if (decide (r7.1.1 > 32)) = true then some ((false, ()), ()) else l4 k x4 (IntKind.i64.wrap (i5 + 1)) x6 else some ((true, ()), ()) := by kernel_rfl
variable (c_1 : LL) (stalks_2 : LI)
noncomputable def T : OB := if ((stalks_2.length : Int) != (c_1.length : Int)) = true then some ((false, ()), ()) else (Ad0.F (stalks_2, Am0.cloG (()), ())).bind fun r3 => if r3.1.1 = true then some ((false, ()), ()) else l4 k stalks_2 (0 : Int) c_1
theorem of {r} (h : Ev (fun k => T k c_1 stalks_2) r) : F (c_1, stalks_2, ()) = some r := Ev.run (fun k => by kernel_rfl) h
theorem S : a3x prog ⟨133, sig, F⟩ := sound_k (res := [.tmp 4]) func133 (⟨nM, mixed_ok, tab_ok tab_good, cM ⟨Ag0.S, cM ⟨Ad0.S, nM⟩⟩, cM ⟨Am0.cloS, nM⟩, nM⟩)
end Ad4
namespace Ad1
noncomputable def sig : Sig := ⟨[pI], [oB]⟩
noncomputable def cfg : Cfg := cl (cx [⟨121, Aa4.sig, Aa4.F⟩]) fun id => match id with | 4 => ([0, 3], []) | _ => ([], [])
noncomputable def fin := finK cfg.c sig [.tmp 2]
noncomputable def F (d : Int × Unit) : OB := anyK (a9q cfg fin (bd f178) (a5e sig.ps d 18))
variable (k : Nat) (i3 i4 : Int)
noncomputable def l4 : OB := Vm.runT cfg fin k [.inLoop (sub [1, 1, 0, 1, 0, 0] (bd f178)), .inBlock 0, .code (sub [1, 1, 1] (bd f178))] ⟨[vI i3, dD, dD, vI i4] ++ a8I 14, []⟩
theorem l4_eq : l4 (k + 1) i3 i4 = if (decide ((IntKind.i64.wrap (i4 * i4)) ≤ i3)) = true then if i4 = 0 then none else if ((i3.tmod i4) == 0) = true then some ((false, ()), ()) else l4 k i3 (IntKind.i64.wrap (i4 + 1)) else some ((true, ()), ()) := by kernel_rfl
variable (p_1 : Int)
noncomputable def T : OB := (Aa4.F (p_1, (2 : Int), (251 : Int), ())).bind fun r2 => if (!r2.1.1) = true then some ((false, ()), ()) else l4 k p_1 (2 : Int)
theorem of {r} (h : Ev (fun k => T k p_1) r) : F (p_1, ()) = some r := Ev.run (fun k => by kernel_rfl) h
theorem S : a3x prog ⟨178, sig, F⟩ := sound_k (res := [.tmp 2]) func178 (cok (cM ⟨Aa4.S, nM⟩))
end Ad1
namespace Ac3
noncomputable def sig : Sig := ⟨[pC, pI], [oL]⟩
noncomputable def cfg : Cfg := cl (cx [⟨107, Aa5.sig, Aa5.F⟩, ⟨197, Ab9.sig, Ab9.F⟩]) fun id => match id with | 3 => ([2, 5, 13, 14, 15], [8, 20, 52]) | _ => ([], [])
noncomputable def fin := finK cfg.c sig [.tmp 4]
noncomputable def F (d : LL × Int × Unit) : OL := anyK (a9q cfg fin (bd f162) (a5e sig.ps d 27))
variable (k : Nat) (i4 i5 : Int) (x6 : LL) (x7 : LI) (x8 : LL)
noncomputable def l3 : OL := Vm.runT cfg fin k [.inLoop (sub [1, 1, 0, 1, 0, 0] (bd f162)), .inBlock 0, .code (sub [1, 1, 1] (bd f162))] ⟨[dD, dD, .ref 8 (.root 0), dD, dD, .view 20 (.root 0) 1 false, dD, dD, dD, dD, dD, dD, dD, .view 52 (.root 0) 1 false, vI i4, vI i5] ++ a8I 11, [(8, ⟨true, [cQ x6]⟩), (20, ⟨false, [dL x7]⟩), (52, ⟨false, [dQ x8]⟩)]⟩
theorem l3_eq : l3 (k + 1) i4 i5 x6 x7 x8 = if (decide (i5 < i4)) = true then if 0 ≤ i5 ∧ i5 < (x8.length : Int) then (Aa5.F (x6, x8.getD i5.toNat ([] : LI), ())).bind fun r9 => if x7.length + [r9.1.1].length ≤ bigA then l3 k i4 (IntKind.i64.wrap (i5 + 1)) x6 (x7 ++ [r9.1.1]) x8 else none else none else some ((x7, ()), ()) := by kernel_rfl
variable (c_1 : LL) (k_2 : Int)
noncomputable def T : OL := if 0 ≤ k_2 ∧ k_2 < (c_1.length : Int) then (Ab9.F (c_1.getD k_2.toNat ([] : LI), ())).bind fun r3 => l3 k (r3.1.1.length : Int) (0 : Int) c_1 ([]) r3.1.1 else none
theorem of {r} (h : Ev (fun k => T k c_1 k_2) r) : F (c_1, k_2, ()) = some r := Ev.run (fun k => by kernel_rfl) h
theorem S : a3x prog ⟨162, sig, F⟩ := sound_k (res := [.tmp 4]) func162 (cok (cM ⟨Aa5.S, cM ⟨Ab9.S, nM⟩⟩))
end Ac3
namespace An0
noncomputable def sig : Sig := ⟨[pQ], [oI]⟩
noncomputable def cfg : Cfg := cf (cx [])
noncomputable def fin := finK cfg.c sig [.tmp 2]
noncomputable def F (d : LL × Unit) : OI := anyK (a9q cfg fin (bd f224) (a5e sig.ps d 5))
variable (list_1 : LL)
noncomputable def T : OI := some (((list_1.length : Int), ()), ())
theorem eq : F (list_1, ()) = T list_1 := eq_any fun k => by kernel_rfl
theorem S : a3x prog ⟨224, sig, F⟩ := sound_k (res := [.tmp 2]) func224 (cok nM)
end An0
namespace Ab8
noncomputable def sig : Sig := ⟨[pC], [(.val false, (.sl TEdge), .deep)]⟩
noncomputable def cfg : Cfg := cl (cx [⟨162, Ac3.sig, Ac3.F⟩, ⟨224, An0.sig, An0.F⟩]) fun id => match id with | 3 => ([1, 3, 9, 10], [4, 12]) | 6 => ([1, 3, 4, 9, 10, 15, 16, 17], [4, 12, 60]) | _ => ([], [])
noncomputable def fin := finK cfg.c sig [.tmp 2]
noncomputable def F (d : LL × Unit) : Option ((List (Int × Int × Int) × Unit) × (Unit)) := anyK (a9q cfg fin (bd f210) (a5e sig.ps d 32))
variable (k : Nat) (i3 i4 : Int) (x5 : LL) (x6 : List (Int × Int × Int))
noncomputable def l3 : Option ((List (Int × Int × Int) × Unit) × (Unit)) := Vm.runT cfg fin k [.inLoop (sub [1, 1, 0, 1, 0, 0] (bd f210)), .inBlock 0, .code (sub [1, 1, 1] (bd f210))] ⟨[dD, .ref 4 (.root 0), dD, .view 12 (.root 0) 1 false, dD, dD, dD, dD, dD, vI i3, vI i4] ++ a8I 21, [(4, ⟨true, [cQ x5]⟩), (12, ⟨false, [⟨(.sl TEdge), .deep, x6⟩]⟩)]⟩
variable (i8 i9 i10 i11 i12 : Int) (x13 : LL) (x14 : List (Int × Int × Int)) (x15 : LI)
noncomputable def l6 : Option ((List (Int × Int × Int) × Unit) × (Unit)) := Vm.runT cfg fin k [.inLoop (sub [1, 1, 0, 1, 0, 0, 1, 1, 0, 0, 1, 1, 0, 0] (bd f210)), .inBlock 2, .inBlock 1, .code (sub [1, 1, 0, 1, 0, 0, 1, 1, 1] (bd f210)), .inLoop (sub [1, 1, 0, 1, 0, 0] (bd f210)), .inBlock 0, .code (sub [1, 1, 1] (bd f210))] ⟨[dD, .ref 4 (.root 0), dD, .view 12 (.root 0) 1 false, vI i8, dD, dD, dD, dD, vI i9, vI i10, dD, dD, dD, dD, .view 60 (.root 0) 1 false, vI i11, vI i12] ++ a8I 14, [(4, ⟨true, [cQ x13]⟩), (12, ⟨false, [⟨(.sl TEdge), .deep, x14⟩]⟩), (60, ⟨false, [dL x15]⟩)]⟩
theorem l3_eq : l3 (k + 1) i3 i4 x5 x6 = if (decide (i4 < i3)) = true then (Ac3.F (x5, i4, ())).bind fun r7 => l6 k i4 i3 i4 (r7.1.1.length : Int) (0 : Int) x5 x6 r7.1.1 else some ((x6, ()), ()) := by kernel_rfl
theorem l6_eq : l6 (k + 1) i8 i9 i10 i11 i12 x13 x14 x15 = if (decide (i12 < i11)) = true then if 0 ≤ i12 ∧ i12 < (x15.length : Int) then if x14.length + ([(i8, (i12, (x15.getD i12.toNat 0 : Int)))] : List (Int × Int × Int)).length ≤ bigA then l6 k i8 i9 i10 i11 (IntKind.i64.wrap (i12 + 1)) x13 (x14 ++ [(i8, (i12, (x15.getD i12.toNat 0 : Int)))]) x15 else none else none else l3 k i9 (IntKind.i64.wrap (i10 + 1)) x13 x14 := by kernel_rfl
variable (c_1 : LL)
noncomputable def T : Option ((List (Int × Int × Int) × Unit) × (Unit)) := (An0.F (c_1, ())).bind fun r2 => l3 k r2.1.1 (0 : Int) c_1 ([])
theorem of {r} (h : Ev (fun k => T k c_1) r) : F (c_1, ()) = some r := Ev.run (fun k => by kernel_rfl) h
theorem S : a3x prog ⟨210, sig, F⟩ := sound_k (res := [.tmp 2]) func210 (cok (cM ⟨Ac3.S, cM ⟨An0.S, nM⟩⟩))
end Ab8
namespace Am7
noncomputable def sig : Sig := ⟨[pI, pI], [oB]⟩
noncomputable def cfg : Cfg := cf (cx [⟨121, Aa4.sig, Aa4.F⟩])
noncomputable def fin := finK cfg.c sig [.tmp 4]
noncomputable def F (d : Int × Int × Unit) : OB := anyK (a9q cfg fin (bd f275) (a5e sig.ps d 9))
variable (a_1 p_2 : Int)
noncomputable def T : OB := (Aa4.F (a_1, (0 : Int), IntKind.i64.wrap (p_2 - (1 : Int)), ())).bind fun r3 => some ((r3.1.1, ()), ())
theorem eq : F (a_1, p_2, ()) = T a_1 p_2 := eq_any fun k => by kernel_rfl
theorem S : a3x prog ⟨275, sig, F⟩ := sound_k (res := [.tmp 4]) func275 (cok (cM ⟨Aa4.S, nM⟩))
end Am7
namespace Am6
noncomputable def sig : Sig := ⟨[pI, .rptr tI], [oB]⟩
noncomputable def cfg : Cfg := cf (cx [⟨275, Am7.sig, Am7.F⟩])
noncomputable def fin := finK cfg.c sig [.tmp 3]
noncomputable def F (d : Int × Int × Unit) : OB := anyK (a9q cfg fin (bd f274) (a5e sig.ps d 8))
variable (a_1 a_2 : Int)
noncomputable def T : OB := (Am7.F (a_1, a_2, ())).bind fun r3 => some ((!r3.1.1, ()), ())
theorem eq : F (a_1, a_2, ()) = T a_1 a_2 := eq_any fun k => by kernel_rfl
theorem S : a3x prog ⟨274, sig, F⟩ := sound_k (res := [.tmp 3]) func274 (cok (cM ⟨Am7.S, nM⟩))
noncomputable def cloG (y d : Int × Unit) : Option (Bool × Unit) := (F (a9c [.rptr tI] [(false, tI)] d y)).map (·.1)
noncomputable def clo : Clo := ⟨274, ⟨[(false, tI)], [(.val false, .bool, .deep)]⟩, [.rptr tI], cloG⟩
theorem cloS : a2b prog clo := sound_clo (s := ⟨[(false, tI)], [(.val false, .bool, .deep)]⟩) (caps := [.rptr tI]) rfl S
end Am6
namespace Ak1
noncomputable def sig : Sig := ⟨[pL, pI], [oB]⟩
noncomputable def cfg : Cfg := cf ⟨a2X tabl, [⟨119, Ad0.sig, Ad0.F⟩], [Am6.clo], [], [], []⟩
noncomputable def fin := finK cfg.c sig [.tmp 4]
noncomputable def F (d : LI × Int × Unit) : OB := anyK (a9q cfg fin (bd f199) (a5e sig.ps d 9))
variable (list_1 : LI) (p_2 : Int)
noncomputable def T : OB := (Ad0.F (list_1, Am6.cloG (p_2, ()), ())).bind fun r3 => some ((!r3.1.1, ()), ())
theorem eq : F (list_1, p_2, ()) = T list_1 p_2 := eq_any fun k => by kernel_rfl
theorem S : a3x prog ⟨199, sig, F⟩ := sound_k (res := [.tmp 4]) func199 (⟨nM, mixed_ok, tab_ok tab_good, cM ⟨Ad0.S, nM⟩, cM ⟨Am6.cloS, nM⟩, nM⟩)
end Ak1
namespace Ak5
noncomputable def sig : Sig := ⟨[pI], [oB]⟩
noncomputable def cfg : Cfg := cf (cx [⟨121, Aa4.sig, Aa4.F⟩])
noncomputable def fin := finK cfg.c sig [.tmp 2]
noncomputable def F (d : Int × Unit) : OB := anyK (a9q cfg fin (bd f284) (a5e sig.ps d 5))
variable (n_1 : Int)
noncomputable def T : OB := (Aa4.F (n_1, (0 : Int), (32 : Int), ())).bind fun r2 => some ((r2.1.1, ()), ())
theorem eq : F (n_1, ()) = T n_1 := eq_any fun k => by kernel_rfl
theorem S : a3x prog ⟨284, sig, F⟩ := sound_k (res := [.tmp 2]) func284 (cok (cM ⟨Aa4.S, nM⟩))
end Ak5
namespace Aj9
noncomputable def sig : Sig := ⟨[pM], [oB]⟩
noncomputable def cfg : Cfg := cf (cx [⟨161, Ad2.sig, Ad2.F⟩, ⟨178, Ad1.sig, Ad1.F⟩, ⟨199, Ak1.sig, Ak1.F⟩, ⟨284, Ak5.sig, Ak5.F⟩])
noncomputable def fin := finK cfg.c sig [.tmp 2]
noncomputable def F (d : MX × Unit) : OB := anyK (a9q cfg fin (bd f238) (a5e sig.ps d 34))
variable (m_1 m_2 m_3 : Int) (m_4 : LI)
noncomputable def T : OB := (Ad1.F (m_1, ())).bind fun r5 => if r5.1.1 = true then (Ak5.F (m_2, ())).bind fun r6 => if r6.1.1 = true then (Ak5.F (m_3, ())).bind fun r7 => if r7.1.1 = true then (Ad2.F (m_4, ())).bind fun r8 => if (r8.1.1 == (IntKind.i64.wrap (m_2 * m_3))) = true then (Ak1.F (m_4, m_1, ())).bind fun r9 => some ((r9.1.1, ()), ()) else some ((false, ()), ()) else some ((false, ()), ()) else some ((false, ()), ()) else some ((false, ()), ())
theorem eq : F ((m_1, (m_2, (m_3, m_4))), ()) = T m_1 m_2 m_3 m_4 := eq_any fun k => by kernel_rfl
theorem S : a3x prog ⟨238, sig, F⟩ := sound_k (res := [.tmp 2]) func238 (cok (cM ⟨Ad2.S, cM ⟨Ad1.S, cM ⟨Ak1.S, cM ⟨Ak5.S, nM⟩⟩⟩⟩))
end Aj9
namespace Ak3
noncomputable def sig : Sig := ⟨[pM, pI, pI, pI], [oB]⟩
noncomputable def cfg : Cfg := cf (cx [⟨238, Aj9.sig, Aj9.F⟩])
noncomputable def fin := finK cfg.c sig [.tmp 8]
noncomputable def F (d : MX × Int × Int × Int × Unit) : OB := anyK (a9q cfg fin (bd f264) (a5e sig.ps d 29))
variable (m_1 m_2 m_3 : Int) (m_4 : LI) (p_5 from_6 to_7 : Int)
noncomputable def T : OB := (Aj9.F ((m_1, (m_2, (m_3, m_4))), ())).bind fun r8 => if r8.1.1 = true then if (m_1 == p_5) = true then if (m_2 == to_7) = true then some ((m_3 == from_6, ()), ()) else some ((false, ()), ()) else some ((false, ()), ()) else some ((false, ()), ())
theorem eq : F ((m_1, (m_2, (m_3, m_4))), p_5, from_6, to_7, ()) = T m_1 m_2 m_3 m_4 p_5 from_6 to_7 := eq_any fun k => by kernel_rfl
theorem S : a3x prog ⟨264, sig, F⟩ := sound_k (res := [.tmp 8]) func264 (cok (cM ⟨Aj9.S, nM⟩))
end Ak3
namespace Ac8
noncomputable def sig : Sig := ⟨[pS], [oB]⟩
noncomputable def cfg : Cfg := cl (cx [⟨104, Ac7.sig, Ac7.F⟩, ⟨133, Ad4.sig, Ad4.F⟩, ⟨178, Ad1.sig, Ad1.F⟩, ⟨210, Ab8.sig, Ab8.F⟩, ⟨264, Ak3.sig, Ak3.F⟩]) fun id => match id with | 5 => ([1, 3, 27, 28, 29], [4, 12]) | _ => ([], [])
noncomputable def fin := finK cfg.c sig [.tmp 2]
noncomputable def F (d : SF × Unit) : OB := anyK (a9q cfg fin (bd f192) (a5e sig.ps d 69))
variable (k : Nat) (i9 i10 : Int) (x11 : LL) (i12 : Int) (x13 : LI) (x14 : LM) (x15 : List (Int × Int × Int))
noncomputable def l5 : OB := Vm.runT cfg fin k [.inLoop (sub [1, 1, 1, 0, 1, 0, 0] (bd f192)), .inBlock 0, .code (sub [1, 1, 1, 1] (bd f192))] ⟨[dD, .ref 4 (.root 0), dD, .view 12 (.root 0) 1 false, dD, dD, dD, dD, dD, dD, dD, dD, dD, dD, dD, dD, dD, dD, dD, dD, dD, dD, dD, dD, dD, dD, dD, .view 12 (.root 0) 1 false, vI i9, vI i10] ++ a8I 39, [(4, ⟨true, [cQ x11, cI i12, cL x13, ⟨(.sl TMatrix), .sh, x14⟩]⟩), (12, ⟨false, [⟨(.sl TEdge), .deep, x15⟩]⟩)]⟩
theorem l5_eq : l5 (k + 1) i9 i10 x11 i12 x13 x14 x15 = if (decide (i10 < i9)) = true then if 0 ≤ i10 ∧ i10 < (x15.length : Int) then if (decide (i10 ≥ (x14.length : Int))) = true then some ((false, ()), ()) else if 0 ≤ i10 ∧ i10 < (x14.length : Int) then if 0 ≤ (((x15.getD i10.toNat (0, 0, 0)).2).2 : Int) ∧ (((x15.getD i10.toNat (0, 0, 0)).2).2 : Int) < (x13.length : Int) then if 0 ≤ ((x15.getD i10.toNat (0, 0, 0)).1 : Int) ∧ ((x15.getD i10.toNat (0, 0, 0)).1 : Int) < (x13.length : Int) then (Ak3.F (x14.getD i10.toNat (0, 0, 0, ([] : LI)), i12, x13.getD (((x15.getD i10.toNat (0, 0, 0)).2).2 : Int).toNat 0, x13.getD ((x15.getD i10.toNat (0, 0, 0)).1 : Int).toNat 0, ())).bind fun r16 => if (!r16.1.1) = true then some ((false, ()), ()) else l5 k i9 (IntKind.i64.wrap (i10 + 1)) x11 i12 x13 x14 x15 else none else none else none else none else some (((x15.length : Int) == (x14.length : Int), ()), ()) := by kernel_rfl
variable (toArray_1 : LL) (toArray_2 : Int) (toArray_3 : LI) (toArray_4 : LM)
noncomputable def T : OB := (Ac7.F (toArray_1, ())).bind fun r5 => if (!r5.1.1) = true then some ((false, ()), ()) else (Ad1.F (toArray_2, ())).bind fun r6 => if (!r6.1.1) = true then some ((false, ()), ()) else (Ad4.F (toArray_1, toArray_3, ())).bind fun r7 => if (!r7.1.1) = true then some ((false, ()), ()) else (Ab8.F (toArray_1, ())).bind fun r8 => l5 k (r8.1.1.length : Int) (0 : Int) toArray_1 toArray_2 toArray_3 toArray_4 r8.1.1
theorem of {r} (h : Ev (fun k => T k toArray_1 toArray_2 toArray_3 toArray_4) r) : F ((toArray_1, (toArray_2, (toArray_3, toArray_4))), ()) = some r := Ev.run (fun k => by kernel_rfl) h
theorem S : a3x prog ⟨192, sig, F⟩ := sound_k (res := [.tmp 2]) func192 (cok (cM ⟨Ac7.S, cM ⟨Ad4.S, cM ⟨Ad1.S, cM ⟨Ab8.S, cM ⟨Ak3.S, nM⟩⟩⟩⟩⟩))
end Ac8
namespace Ae4
noncomputable def sig : Sig := ⟨[pS, pI], [oI]⟩
noncomputable def cfg : Cfg := cl (cx [⟨161, Ad2.sig, Ad2.F⟩]) fun id => match id with | 3 => ([5, 12, 13, 14], []) | _ => ([], [])
noncomputable def fin := finK cfg.c sig [.tmp 4]
noncomputable def F (d : SF × Int × Unit) : OI := anyK (a9q cfg fin (bd f212) (a5e sig.ps d 27))
variable (k : Nat) (i6 : Int) (x7 : LL) (i8 i9 : Int)
noncomputable def l3 : OI := Vm.runT cfg fin k [.inLoop (sub [1, 1, 0, 1, 0, 0] (bd f212)), .inBlock 0, .code (sub [1, 1, 1] (bd f212))] ⟨[dD, dD, dD, dD, dD, vI i6, dD, dD, dD, dD, dD, dD, vQ x7, vI i8, vI i9] ++ a8I 12, []⟩
theorem l3_eq : l3 (k + 1) i6 x7 i8 i9 = if (decide (i9 < i8)) = true then if 0 ≤ i9 ∧ i9 < (x7.length : Int) then if (decide (((x7.getD i9.toNat ([] : LI)).length : Int) > 1)) = true then (Ad2.F (x7.getD i9.toNat ([] : LI), ())).bind fun r10 => l3 k (IntKind.i64.wrap (i6 + r10.1.1)) x7 i8 (IntKind.i64.wrap (i9 + 1)) else l3 k i6 x7 i8 (IntKind.i64.wrap (i9 + 1)) else none else some ((i6, ()), ()) := by kernel_rfl
noncomputable def T (k : Nat) (s_1 : LL) (s_2 : Int) (s_3 : LI) (s_4 : LM) (simplex_5 : Int) : OI := if 0 ≤ (0 : Int) ∧ (0 : Int) ≤ simplex_5 ∧ simplex_5 ≤ (s_1.length : Int) then l3 k (0 : Int) (cutL s_1 (0 : Int) simplex_5) ((cutL s_1 (0 : Int) simplex_5).length : Int) (0 : Int) else none
theorem of (s_1 : LL) (s_2 : Int) (s_3 : LI) (s_4 : LM) (simplex_5 : Int) {r} (h : Ev (fun k => T k s_1 s_2 s_3 s_4 simplex_5) r) : F ((s_1, (s_2, (s_3, s_4))), simplex_5, ()) = some r := Ev.run (fun k => by kernel_rfl) h
theorem S : a3x prog ⟨212, sig, F⟩ := sound_k (res := [.tmp 4]) func212 (cok (cM ⟨Ad2.S, nM⟩))
end Ae4
namespace Ab4
noncomputable def sig : Sig := ⟨[pS, pI, pI], [(.val true, TMatrix, .sh)]⟩
noncomputable def cfg : Cfg := cf (cx [⟨212, Ae4.sig, Ae4.F⟩])
noncomputable def fin := finK cfg.c sig [.cell 6 87]
noncomputable def F (d : SF × Int × Int × Unit) : OM := anyK (a9q cfg fin (bd f124) (a5e sig.ps d 16))
variable (s_1 : LL) (s_2 : Int) (s_3 : LI) (s_4 : LM) (simplex_5 place_6 : Int)
noncomputable def T : OM := (Ae4.F ((s_1, (s_2, (s_3, s_4))), simplex_5, ())).bind fun r7 => if 0 ≤ (IntKind.i64.wrap (r7.1.1 + place_6)) ∧ (IntKind.i64.wrap (r7.1.1 + place_6)) < (s_4.length : Int) then let y8 : Int := (s_4.getD (IntKind.i64.wrap (r7.1.1 + place_6)).toNat (0, 0, 0, ([] : LI))).1; let y9 : Int := ((s_4.getD (IntKind.i64.wrap (r7.1.1 + place_6)).toNat (0, 0, 0, ([] : LI))).2).1; let y10 : Int := (((s_4.getD (IntKind.i64.wrap (r7.1.1 + place_6)).toNat (0, 0, 0, ([] : LI))).2).2).1; let y11 : LI := (((s_4.getD (IntKind.i64.wrap (r7.1.1 + place_6)).toNat (0, 0, 0, ([] : LI))).2).2).2; some (((y8, (y9, (y10, y11))), ()), ()) else none
theorem eq : F ((s_1, (s_2, (s_3, s_4))), simplex_5, place_6, ()) = T s_1 s_2 s_3 s_4 simplex_5 place_6 := eq_any fun k => by kernel_rfl
theorem S : a3x prog ⟨124, sig, F⟩ := sound_k (res := [.cell 6 87]) func124 (cok (cM ⟨Ae4.S, nM⟩))
end Ab4
namespace Ab1
noncomputable def sig : Sig := ⟨[pI, pI, pI, .fnx ⟨[(false, tI), (false, tI)], [oI]⟩], [oM]⟩
noncomputable def cfg : Cfg := cl (cx []) fun id => match id with | 3 => ([2, 3, 8, 9, 16, 17], [32, 36]) | 6 => ([2, 3, 8, 9, 10, 16, 17, 20, 21], [32, 36]) | _ => ([], [])
noncomputable def fin := finK cfg.c sig [.cell 8 87]
noncomputable def F (d : Int × Int × Int × ((Int × Int × Unit) → Option (Int × Unit)) × Unit) : OM := anyK (a9q cfg fin (bd f135) (a5e sig.ps d 36))
variable (k : Nat) (i5 : Int) (f6 : (Int × Int × Unit) → Option (Int × Unit)) (i7 i8 i9 i10 i11 : Int) (x12 : LI) (i13 i14 i15 : Int) (x16 : LI)
noncomputable def l3 : OM := Vm.runT cfg fin k [.inLoop (sub [1, 1, 0, 1, 0, 0] (bd f135)), .inBlock 0, .code (sub [1, 1, 1] (bd f135))] ⟨[dD, dD, vI i5, .fnx ⟨[(false, tI), (false, tI)], [(.val false, tI, .deep)]⟩ f6, dD, dD, dD, dD, .ref 32 (.root 0), .ref 36 (.root 0), dD, dD, dD, dD, dD, dD, vI i7, vI i8] ++ a8I 18, [(32, ⟨true, [cI i9, cI i10, cI i11, dL x12]⟩), (36, ⟨true, [cI i13, cI i14, cI i15, dL x16]⟩)]⟩
variable (i17 : Int) (f18 : (Int × Int × Unit) → Option (Int × Unit)) (i19 i20 i21 i22 i23 i24 i25 i26 : Int) (x27 : LI) (i28 i29 i30 : Int) (x31 : LI)
noncomputable def l6 : OM := Vm.runT cfg fin k [.inLoop (sub [1, 1, 0, 1, 0, 0, 1, 1, 0, 0, 1, 1, 0, 0] (bd f135)), .inBlock 2, .inBlock 1, .code (sub [1, 1, 0, 1, 0, 0, 1, 1, 1] (bd f135)), .inLoop (sub [1, 1, 0, 1, 0, 0] (bd f135)), .inBlock 0, .code (sub [1, 1, 1] (bd f135))] ⟨[dD, dD, vI i17, .fnx ⟨[(false, tI), (false, tI)], [(.val false, tI, .deep)]⟩ f18, dD, dD, dD, dD, .ref 32 (.root 0), .ref 36 (.root 0), vI i19, dD, dD, dD, dD, dD, vI i20, vI i21, dD, dD, vI i22, vI i23] ++ a8I 14, [(32, ⟨true, [cI i24, cI i25, cI i26, dL x27]⟩), (36, ⟨true, [cI i28, cI i29, cI i30, dL x31]⟩)]⟩
theorem l3_eq : l3 (k + 1) i5 f6 i7 i8 i9 i10 i11 x12 i13 i14 i15 x16 = if (decide (i8 < i7)) = true then l6 k i5 f6 i8 i7 i8 i5 (0 : Int) i9 i10 i11 x12 i13 i14 i15 x16 else some (((i13, (i14, (i15, x16))), ()), ()) := by kernel_rfl
theorem l6_eq : l6 (k + 1) i17 f18 i19 i20 i21 i22 i23 i24 i25 i26 x27 i28 i29 i30 x31 = if (decide (i23 < i22)) = true then (f18 (i19, i23, ())).bind fun r32 => if x31.length + [r32.1].length ≤ bigA then l6 k i17 f18 i19 i20 i21 i22 (IntKind.i64.wrap (i23 + 1)) i24 i25 i26 x27 i28 i29 i30 (x31 ++ [r32.1]) else none else l3 k i17 f18 i20 (IntKind.i64.wrap (i21 + 1)) i24 i25 i26 x27 i28 i29 i30 x31 := by kernel_rfl
variable (p_1 rows_2 columns_3 : Int) (f_4 : (Int × Int × Unit) → Option (Int × Unit))
noncomputable def T : OM := l3 k columns_3 f_4 rows_2 (0 : Int) 0 0 0 ([]) p_1 rows_2 columns_3 ([])
theorem of {r} (h : Ev (fun k => T k p_1 rows_2 columns_3 f_4) r) : F (p_1, rows_2, columns_3, f_4, ()) = some r := Ev.run (fun k => by kernel_rfl) h
theorem S : a3x prog ⟨135, sig, F⟩ := sound_k (res := [.cell 8 87]) func135 (cok nM)
end Ab1
namespace Aa6
noncomputable def sig : Sig := ⟨[pL], [oL]⟩
noncomputable def cfg : Cfg := cf (cx [])
noncomputable def fin := finK cfg.c sig [.tmp 2]
noncomputable def F (d : LI × Unit) : OL := anyK (a9q cfg fin (bd f157) (a5e sig.ps d 8))
variable (s_1 : LI)
noncomputable def T : OL := if 0 < s_1.length then if ([] : LI).length + s_1.length ≤ bigA then some ((([] : LI) ++ s_1, ()), ()) else none else both ( some (([], ()), ()) ) ( if ([] : LI).length + s_1.length ≤ bigA then some ((([] : LI) ++ s_1, ()), ()) else none )
theorem eq : F (s_1, ()) = T s_1 := eq_any fun k => by kernel_rfl
theorem S : a3x prog ⟨157, sig, F⟩ := sound_k (res := [.tmp 2]) func157 (cok nM)
end Aa6
namespace Ae3
noncomputable def sig : Sig := ⟨[pM, pI], [(.val false, tL, .sh)]⟩
noncomputable def cfg : Cfg := cf (cx [])
noncomputable def fin := finK cfg.c sig [.tmp 4]
noncomputable def F (d : MX × Int × Unit) : OL := anyK (a9q cfg fin (bd f174) (a5e sig.ps d 17))
noncomputable def T (m_1 m_2 m_3 : Int) (m_4 : LI) (i_5 : Int) : OL := if 0 ≤ (IntKind.i64.wrap (i_5 * m_3)) ∧ (IntKind.i64.wrap (i_5 * m_3)) ≤ (IntKind.i64.wrap ((IntKind.i64.wrap (i_5 + 1)) * m_3)) ∧ (IntKind.i64.wrap ((IntKind.i64.wrap (i_5 + 1)) * m_3)) ≤ (m_4.length : Int) then some ((cutL m_4 (IntKind.i64.wrap (i_5 * m_3)) (IntKind.i64.wrap ((IntKind.i64.wrap (i_5 + 1)) * m_3)), ()), ()) else none
theorem eq (m_1 m_2 m_3 : Int) (m_4 : LI) (i_5 : Int) : F ((m_1, (m_2, (m_3, m_4))), i_5, ()) = T m_1 m_2 m_3 m_4 i_5 := eq_any fun k => by kernel_rfl
theorem S : a3x prog ⟨174, sig, F⟩ := sound_k (res := [.tmp 4]) func174 (cok nM)
end Ae3
namespace Ah9
noncomputable def sig : Sig := ⟨[pM], [oQ]⟩
noncomputable def cfg : Cfg := cl (cx [⟨157, Aa6.sig, Aa6.F⟩, ⟨174, Ae3.sig, Ae3.F⟩]) fun id => match id with | 3 => ([1, 3, 6, 7], [4, 12]) | _ => ([], [])
noncomputable def fin := finK cfg.c sig [.tmp 2]
noncomputable def F (d : MX × Unit) : OQ := anyK (a9q cfg fin (bd f160) (a5e sig.ps d 19))
variable (k : Nat) (i5 i6 i7 i8 i9 : Int) (x10 : LI) (x11 : LL)
noncomputable def l3 : OQ := Vm.runT cfg fin k [.inLoop (sub [1, 1, 0, 1, 0, 0] (bd f160)), .inBlock 0, .code (sub [1, 1, 1] (bd f160))] ⟨[dD, .ref 4 (.root 0), dD, .view 12 (.root 0) 1 false, dD, dD, vI i5, vI i6] ++ a8I 11, [(4, ⟨true, [cI i7, cI i8, cI i9, cL x10]⟩), (12, ⟨false, [dQ x11]⟩)]⟩
theorem l3_eq : l3 (k + 1) i5 i6 i7 i8 i9 x10 x11 = if (decide (i6 < i5)) = true then (Ae3.F ((i7, (i8, (i9, x10))), i6, ())).bind fun r12 => (Aa6.F (r12.1.1, ())).bind fun r13 => if x11.length + [r13.1.1].length ≤ bigA then l3 k i5 (IntKind.i64.wrap (i6 + 1)) i7 i8 i9 x10 (x11 ++ [r13.1.1]) else none else some ((x11, ()), ()) := by kernel_rfl
variable (m_1 m_2 m_3 : Int) (m_4 : LI)
noncomputable def T : OQ := l3 k m_2 (0 : Int) m_1 m_2 m_3 m_4 ([])
theorem of {r} (h : Ev (fun k => T k m_1 m_2 m_3 m_4) r) : F ((m_1, (m_2, (m_3, m_4))), ()) = some r := Ev.run (fun k => by kernel_rfl) h
theorem S : a3x prog ⟨160, sig, F⟩ := sound_k (res := [.tmp 2]) func160 (cok (cM ⟨Aa6.S, cM ⟨Ae3.S, nM⟩⟩))
end Ah9
namespace Am5
noncomputable def sig : Sig := ⟨[pM, pI, pI], [oI]⟩
noncomputable def cfg : Cfg := cf (cx [])
noncomputable def fin := finK cfg.c sig [.tmp 6]
noncomputable def F (d : MX × Int × Int × Unit) : OI := anyK (a9q cfg fin (bd f137) (a5e sig.ps d 17))
noncomputable def T (m_1 m_2 m_3 : Int) (m_4 : LI) (i_5 j_6 : Int) : OI := if 0 ≤ (IntKind.i64.wrap ((IntKind.i64.wrap (i_5 * m_3)) + j_6)) ∧ (IntKind.i64.wrap ((IntKind.i64.wrap (i_5 * m_3)) + j_6)) < (m_4.length : Int) then some (((m_4.getD (IntKind.i64.wrap ((IntKind.i64.wrap (i_5 * m_3)) + j_6)).toNat 0 : Int), ()), ()) else none
theorem eq (m_1 m_2 m_3 : Int) (m_4 : LI) (i_5 j_6 : Int) : F ((m_1, (m_2, (m_3, m_4))), i_5, j_6, ()) = T m_1 m_2 m_3 m_4 i_5 j_6 := eq_any fun k => by kernel_rfl
theorem S : a3x prog ⟨137, sig, F⟩ := sound_k (res := [.tmp 6]) func137 (cok nM)
end Am5
namespace An1
noncomputable def sig : Sig := ⟨[pI, pI, qM], [oI]⟩
noncomputable def cfg : Cfg := cf (cx [⟨137, Am5.sig, Am5.F⟩])
noncomputable def fin := finK cfg.c sig [.tmp 5]
noncomputable def F (d : Int × Int × MX × Unit) : OI := anyK (a9q cfg fin (bd f279) (a5e sig.ps d 10))
variable (i_1 j_2 a_3 a_4 a_5 : Int) (a_6 : LI)
noncomputable def T : OI := (Am5.F ((a_3, (a_4, (a_5, a_6))), j_2, i_1, ())).bind fun r7 => some ((r7.1.1, ()), ())
theorem eq : F (i_1, j_2, (a_3, (a_4, (a_5, a_6))), ()) = T i_1 j_2 a_3 a_4 a_5 a_6 := eq_any fun k => by kernel_rfl
theorem S : a3x prog ⟨279, sig, F⟩ := sound_k (res := [.tmp 5]) func279 (cok (cM ⟨Am5.S, nM⟩))
noncomputable def cloG (y : MX × Unit) (d : Int × Int × Unit) : Option (Int × Unit) := (F (a9c [.rptr TMatrix] [(false, tI), (false, tI)] d y)).map (·.1)
noncomputable def clo : Clo := ⟨279, ⟨[(false, tI), (false, tI)], [(.val false, tI, .deep)]⟩, [.rptr TMatrix], cloG⟩
theorem cloS : a2b prog clo := sound_clo (s := ⟨[(false, tI), (false, tI)], [(.val false, tI, .deep)]⟩) (caps := [.rptr TMatrix]) rfl S
end An1
namespace Ak6
noncomputable def sig : Sig := ⟨[pM], [oM]⟩
noncomputable def cfg : Cfg := cf ⟨a2X tabl, [⟨135, Ab1.sig, Ab1.F⟩], [An1.clo], [], [], []⟩
noncomputable def fin := finK cfg.c sig [.cell 2 87]
noncomputable def F (d : MX × Unit) : OM := anyK (a9q cfg fin (bd f223) (a5e sig.ps d 11))
variable (m_1 m_2 m_3 : Int) (m_4 : LI)
noncomputable def T : OM := (Ab1.F (m_1, m_3, m_2, An1.cloG ((m_1, (m_2, (m_3, m_4))), ()), ())).bind fun r5 => some ((r5.1.1, ()), ())
theorem eq : F ((m_1, (m_2, (m_3, m_4))), ()) = T m_1 m_2 m_3 m_4 := eq_any fun k => by kernel_rfl
theorem S : a3x prog ⟨223, sig, F⟩ := sound_k (res := [.cell 2 87]) func223 (⟨nM, mixed_ok, tab_ok tab_good, cM ⟨Ab1.S, nM⟩, cM ⟨An1.cloS, nM⟩, nM⟩)
end Ak6
namespace Ak2
noncomputable def sig : Sig := ⟨[pM], [oQ]⟩
noncomputable def cfg : Cfg := cf (cx [⟨160, Ah9.sig, Ah9.F⟩, ⟨223, Ak6.sig, Ak6.F⟩])
noncomputable def fin := finK cfg.c sig [.tmp 2]
noncomputable def F (d : MX × Unit) : OQ := anyK (a9q cfg fin (bd f143) (a5e sig.ps d 6))
variable (m_1 m_2 m_3 : Int) (m_4 : LI)
noncomputable def T : OQ := (Ak6.F ((m_1, (m_2, (m_3, m_4))), ())).bind fun r5 => (Ah9.F (r5.1.1, ())).bind fun r6 => some ((r6.1.1, ()), ())
theorem eq : F ((m_1, (m_2, (m_3, m_4))), ()) = T m_1 m_2 m_3 m_4 := eq_any fun k => by kernel_rfl
theorem S : a3x prog ⟨143, sig, F⟩ := sound_k (res := [.tmp 2]) func143 (cok (cM ⟨Ah9.S, cM ⟨Ak6.S, nM⟩⟩))
end Ak2
namespace Ah7
noncomputable def sig : Sig := ⟨[pL, pL, pI], [oI]⟩
noncomputable def cfg : Cfg := cl (cx []) fun id => match id with | 3 => ([0, 1, 2, 7, 10, 11], []) | _ => ([], [])
noncomputable def fin := finK cfg.c sig [.tmp 6]
noncomputable def F (d : LI × LI × Int × Unit) : OI := anyK (a9q cfg fin (bd f173) (a5e sig.ps d 29))
variable (k : Nat) (x4 x5 : LI) (i6 i7 i8 i9 : Int)
noncomputable def l3 : OI := Vm.runT cfg fin k [.inLoop (sub [1, 1, 0, 1, 0, 0] (bd f173)), .inBlock 0, .code (sub [1, 1, 1] (bd f173))] ⟨[vL x4, vL x5, vI i6, dD, dD, dD, dD, vI i7, dD, dD, vI i8, vI i9] ++ a8I 17, []⟩
theorem l3_eq : l3 (k + 1) x4 x5 i6 i7 i8 i9 = if (decide (i9 < i8)) = true then if 0 ≤ i9 ∧ i9 < (x4.length : Int) then if 0 ≤ i9 ∧ i9 < (x5.length : Int) then if i6 = 0 then none else l3 k x4 x5 i6 ((IntKind.i64.wrap (i7 + (IntKind.i64.wrap ((x4.getD i9.toNat 0 : Int) * (x5.getD i9.toNat 0 : Int))))).tmod i6) i8 (IntKind.i64.wrap (i9 + 1)) else none else none else some ((i7, ()), ()) := by kernel_rfl
variable (a_1 b_2 : LI) (p_3 : Int)
noncomputable def T : OI := l3 k a_1 b_2 p_3 (0 : Int) (a_1.length : Int) (0 : Int)
theorem of {r} (h : Ev (fun k => T k a_1 b_2 p_3) r) : F (a_1, b_2, p_3, ()) = some r := Ev.run (fun k => by kernel_rfl) h
theorem S : a3x prog ⟨173, sig, F⟩ := sound_k (res := [.tmp 6]) func173 (cok nM)
end Ah7
namespace Am9
noncomputable def sig : Sig := ⟨[pI, pI, qM, qC], [oI]⟩
noncomputable def cfg : Cfg := cf (cx [⟨173, Ah7.sig, Ah7.F⟩, ⟨174, Ae3.sig, Ae3.F⟩])
noncomputable def fin := finK cfg.c sig [.tmp 6]
noncomputable def F (d : Int × Int × MX × LL × Unit) : OI := anyK (a9q cfg fin (bd f290) (a5e sig.ps d 17))
variable (i_1 j_2 a_3 a_4 a_5 : Int) (a_6 : LI) (a_7 : LL)
noncomputable def T : OI := (Ae3.F ((a_3, (a_4, (a_5, a_6))), i_1, ())).bind fun r8 => if 0 ≤ j_2 ∧ j_2 < (a_7.length : Int) then (Ah7.F (r8.1.1, a_7.getD j_2.toNat ([] : LI), a_3, ())).bind fun r9 => some ((r9.1.1, ()), ()) else none
theorem eq : F (i_1, j_2, (a_3, (a_4, (a_5, a_6))), a_7, ()) = T i_1 j_2 a_3 a_4 a_5 a_6 a_7 := eq_any fun k => by kernel_rfl
theorem S : a3x prog ⟨290, sig, F⟩ := sound_k (res := [.tmp 6]) func290 (cok (cM ⟨Ah7.S, cM ⟨Ae3.S, nM⟩⟩))
noncomputable def cloG (y : MX × LL × Unit) (d : Int × Int × Unit) : Option (Int × Unit) := (F (a9c [.rptr TMatrix, .rptr tQ] [(false, tI), (false, tI)] d y)).map (·.1)
noncomputable def clo : Clo := ⟨290, ⟨[(false, tI), (false, tI)], [(.val false, tI, .deep)]⟩, [.rptr TMatrix, .rptr tQ], cloG⟩
theorem cloS : a2b prog clo := sound_clo (s := ⟨[(false, tI), (false, tI)], [(.val false, tI, .deep)]⟩) (caps := [.rptr TMatrix, .rptr tQ]) rfl S
end Am9
namespace Ah8
noncomputable def sig : Sig := ⟨[pM, pM], [oM]⟩
noncomputable def cfg : Cfg := cf ⟨a2X tabl, [⟨135, Ab1.sig, Ab1.F⟩, ⟨143, Ak2.sig, Ak2.F⟩], [Am9.clo], [], [], []⟩
noncomputable def fin := finK cfg.c sig [.cell 4 87]
noncomputable def F (d : MX × MX × Unit) : OM := anyK (a9q cfg fin (bd f265) (a5e sig.ps d 16))
variable (a_1 a_2 a_3 : Int) (a_4 : LI) (b_5 b_6 b_7 : Int) (b_8 : LI)
noncomputable def T : OM := (Ak2.F ((b_5, (b_6, (b_7, b_8))), ())).bind fun r9 => (Ab1.F (a_1, a_2, b_7, Am9.cloG ((a_1, (a_2, (a_3, a_4))), r9.1.1, ()), ())).bind fun r10 => some ((r10.1.1, ()), ())
theorem eq : F ((a_1, (a_2, (a_3, a_4))), (b_5, (b_6, (b_7, b_8))), ()) = T a_1 a_2 a_3 a_4 b_5 b_6 b_7 b_8 := eq_any fun k => by kernel_rfl
theorem S : a3x prog ⟨265, sig, F⟩ := sound_k (res := [.cell 4 87]) func265 (⟨nM, mixed_ok, tab_ok tab_good, cM ⟨Ab1.S, cM ⟨Ak2.S, nM⟩⟩, cM ⟨Am9.cloS, nM⟩, nM⟩)
end Ah8
namespace Ac4
noncomputable def sig : Sig := ⟨[pL, pL], [oB]⟩
noncomputable def cfg : Cfg := cl (cx []) fun id => match id with | 4 => ([0, 1, 12, 13], []) | _ => ([], [])
noncomputable def fin := finK cfg.c sig [.tmp 4]
noncomputable def F (d : LI × LI × Unit) : OB := anyK (a9q cfg fin (bd f259) (a5e sig.ps d 26))
variable (k : Nat) (x3 x4 : LI) (i5 i6 : Int)
noncomputable def l4 : OB := Vm.runT cfg fin k [.inLoop (sub [1, 1, 0, 1, 0, 0] (bd f259)), .inBlock 0, .code (sub [1, 1, 1] (bd f259))] ⟨[vL x3, vL x4, dD, dD, dD, dD, dD, dD, dD, dD, dD, dD, vI i5, vI i6] ++ a8I 12, []⟩
theorem l4_eq : l4 (k + 1) x3 x4 i5 i6 = if (decide (i6 < i5)) = true then if 0 ≤ i6 ∧ i6 < (x3.length : Int) then if 0 ≤ i6 ∧ i6 < (x4.length : Int) then if ((x3.getD i6.toNat 0 : Int) != (x4.getD i6.toNat 0 : Int)) = true then some ((false, ()), ()) else l4 k x3 x4 i5 (IntKind.i64.wrap (i6 + 1)) else none else none else some ((true, ()), ()) := by kernel_rfl
variable (s1_1 s2_2 : LI)
noncomputable def T : OB := if ((s1_1.length : Int) != (s2_2.length : Int)) = true then some ((false, ()), ()) else l4 k s1_1 s2_2 (s1_1.length : Int) (0 : Int)
theorem of {r} (h : Ev (fun k => T k s1_1 s2_2) r) : F (s1_1, s2_2, ()) = some r := Ev.run (fun k => by kernel_rfl) h
theorem S : a3x prog ⟨259, sig, F⟩ := sound_k (res := [.tmp 4]) func259 (cok nM)
noncomputable def cloG (y : Unit) (d : LI × LI × Unit) : Option (Bool × Unit) := (F (a9c [] [(false, tL), (false, tL)] d y)).map (·.1)
noncomputable def clo : Clo := ⟨259, ⟨[(false, tL), (false, tL)], [(.val false, .bool, .deep)]⟩, [], cloG⟩
theorem cloS : a2b prog clo := sound_clo (s := ⟨[(false, tL), (false, tL)], [(.val false, .bool, .deep)]⟩) (caps := []) rfl S
end Ac4
namespace Aj7
noncomputable def sig : Sig := ⟨[pM, pM], [oB]⟩
noncomputable def cfg : Cfg := cf (cx [⟨259, Ac4.sig, Ac4.F⟩])
noncomputable def fin := finK cfg.c sig [.tmp 4]
noncomputable def F (d : MX × MX × Unit) : OB := anyK (a9q cfg fin (bd f266) (a5e sig.ps d 31))
variable (a_1 a_2 a_3 : Int) (a_4 : LI) (b_5 b_6 b_7 : Int) (b_8 : LI)
noncomputable def T : OB := if (a_1 == b_5) = true then if (a_2 == b_6) = true then if (a_3 == b_7) = true then (Ac4.F (a_4, b_8, ())).bind fun r9 => some ((r9.1.1, ()), ()) else some ((false, ()), ()) else some ((false, ()), ()) else some ((false, ()), ())
theorem eq : F ((a_1, (a_2, (a_3, a_4))), (b_5, (b_6, (b_7, b_8))), ()) = T a_1 a_2 a_3 a_4 b_5 b_6 b_7 b_8 := eq_any fun k => by kernel_rfl
theorem S : a3x prog ⟨266, sig, F⟩ := sound_k (res := [.tmp 4]) func266 (cok (cM ⟨Ac4.S, nM⟩))
end Aj7
namespace Aa8
noncomputable def sig : Sig := ⟨[pS], [oI, oI, oB]⟩
noncomputable def cfg : Cfg := cl (cx [⟨124, Ab4.sig, Ab4.F⟩, ⟨162, Ac3.sig, Ac3.F⟩, ⟨265, Ah8.sig, Ah8.F⟩, ⟨266, Aj7.sig, Aj7.F⟩]) fun id => match id with | 2 => ([1, 15, 16, 17], [4]) | 8 => ([1, 6, 7, 8, 15, 16, 17, 31, 32], [4, 32]) | 11 => ([1, 6, 7, 8, 9, 10, 15, 16, 17, 31, 32], [4, 32]) | _ => ([], [])
noncomputable def fin := finK cfg.c sig [.tmp 2, .tmp 3, .tmp 4]
noncomputable def F (d : SF × Unit) : Option ((Int × Int × Bool × Unit) × (Unit)) := anyK (a9q cfg fin (bd f193) (a5e sig.ps d 86))
variable (k : Nat) (x5 : LL) (i6 i7 : Int) (x8 : LL) (i9 : Int) (x10 : LI) (x11 : LM)
noncomputable def l2 : Option ((Int × Int × Bool × Unit) × (Unit)) := Vm.runT cfg fin k [.inLoop (sub [1, 0, 1, 0, 0] (bd f193)), .inBlock 0, .code (sub [1, 1] (bd f193))] ⟨[dD, .ref 4 (.root 0), dD, dD, dD, dD, dD, dD, dD, dD, dD, dD, dD, dD, dD, vQ x5, vI i6, vI i7] ++ a8I 68, [(4, ⟨true, [cQ x8, cI i9, cL x10, ⟨(.sl TMatrix), .sh, x11⟩]⟩)]⟩
variable (x13 : LI) (i14 : Int) (x15 : LL) (i16 i17 i18 i19 : Int) (x20 : LL) (i21 : Int) (x22 : LI) (x23 : LM) (x24 : LI)
noncomputable def l8 : Option ((Int × Int × Bool × Unit) × (Unit)) := Vm.runT cfg fin k [.inLoop (sub [1, 0, 1, 0, 0, 1, 1, 0, 0, 1, 1, 1, 1, 1, 0, 0] (bd f193)), .inBlock 2, .inBlock 1, .code (sub [1, 0, 1, 0, 0, 1, 1, 1] (bd f193)), .inLoop (sub [1, 0, 1, 0, 0] (bd f193)), .inBlock 0, .code (sub [1, 1] (bd f193))] ⟨[dD, .ref 4 (.root 0), dD, dD, dD, dD, vL x13, vI i14, .view 32 (.root 0) 1 false, dD, dD, dD, dD, dD, dD, vQ x15, vI i16, vI i17, dD, dD, dD, dD, dD, dD, dD, dD, dD, dD, dD, dD, dD, vI i18, vI i19] ++ a8I 53, [(4, ⟨true, [cQ x20, cI i21, cL x22, ⟨(.sl TMatrix), .sh, x23⟩]⟩), (32, ⟨false, [dL x24]⟩)]⟩
variable (x25 : LI) (i26 i27 i28 : Int) (x29 : LL) (i30 i31 i32 i33 : Int) (x34 : LL) (i35 : Int) (x36 : LI) (x37 : LM) (x38 : LI)
noncomputable def l11 : Option ((Int × Int × Bool × Unit) × (Unit)) := Vm.runT cfg fin k [.inLoop (sub [1, 0, 1, 0, 0, 1, 1, 0, 0, 1, 1, 1, 1, 1, 0, 0, 1, 1, 0, 0, 1, 1, 0, 0] (bd f193)), .inBlock 4, .inBlock 3, .code (sub [1, 0, 1, 0, 0, 1, 1, 0, 0, 1, 1, 1, 1, 1, 0, 0, 1, 1, 1] (bd f193)), .inLoop (sub [1, 0, 1, 0, 0, 1, 1, 0, 0, 1, 1, 1, 1, 1, 0, 0] (bd f193)), .inBlock 2, .inBlock 1, .code (sub [1, 0, 1, 0, 0, 1, 1, 1] (bd f193)), .inLoop (sub [1, 0, 1, 0, 0] (bd f193)), .inBlock 0, .code (sub [1, 1] (bd f193))] ⟨[dD, .ref 4 (.root 0), dD, dD, dD, dD, vL x25, vI i26, .view 32 (.root 0) 1 false, vI i27, vI i28, dD, dD, dD, dD, vQ x29, vI i30, vI i31, dD, dD, dD, dD, dD, dD, dD, dD, dD, dD, dD, dD, dD, vI i32, vI i33] ++ a8I 53, [(4, ⟨true, [cQ x34, cI i35, cL x36, ⟨(.sl TMatrix), .sh, x37⟩]⟩), (32, ⟨false, [dL x38]⟩)]⟩
theorem l2_eq : l2 (k + 1) x5 i6 i7 x8 i9 x10 x11 = if (decide (i7 < i6)) = true then if 0 ≤ i7 ∧ i7 < (x5.length : Int) then if (decide (((x5.getD i7.toNat ([] : LI)).length : Int) < 3)) = true then l2 k x5 i6 (IntKind.i64.wrap (i7 + 1)) x8 i9 x10 x11 else (Ac3.F (x8, i7, ())).bind fun r12 => l8 k (x5.getD i7.toNat ([] : LI)) i7 x5 i6 i7 ((x5.getD i7.toNat ([] : LI)).length : Int) (0 : Int) x8 i9 x10 x11 r12.1.1 else none else some (((0 : Int), ((0 : Int), (false, ()))), ()) := by kernel_rfl
theorem l8_eq : l8 (k + 1) x13 i14 x15 i16 i17 i18 i19 x20 i21 x22 x23 x24 = if (decide (i19 < i18)) = true then l11 k x13 i14 i19 (IntKind.i64.wrap (i19 + 1)) x15 i16 i17 i18 i19 x20 i21 x22 x23 x24 else l2 k x15 i16 (IntKind.i64.wrap (i17 + 1)) x20 i21 x22 x23 := by kernel_rfl
theorem l11_eq : l11 (k + 1) x25 i26 i27 i28 x29 i30 i31 i32 i33 x34 i35 x36 x37 x38 = if (decide (i28 < (x25.length : Int))) = true then (Ab4.F ((x34, (i35, (x36, x37))), i26, i27, ())).bind fun r39 => if 0 ≤ i27 ∧ i27 < (x38.length : Int) then (Ab4.F ((x34, (i35, (x36, x37))), (x38.getD i27.toNat 0 : Int), IntKind.i64.wrap (i28 - 1), ())).bind fun r40 => (Ah8.F (r39.1.1, r40.1.1, ())).bind fun r41 => (Ab4.F ((x34, (i35, (x36, x37))), i26, i28, ())).bind fun r42 => if 0 ≤ i28 ∧ i28 < (x38.length : Int) then (Ab4.F ((x34, (i35, (x36, x37))), (x38.getD i28.toNat 0 : Int), i27, ())).bind fun r43 => (Ah8.F (r42.1.1, r43.1.1, ())).bind fun r44 => (Aj7.F (r41.1.1, r44.1.1, ())).bind fun r45 => if (!r45.1.1) = true then if 0 ≤ i27 ∧ i27 < (x38.length : Int) then (Ac3.F (x34, (x38.getD i27.toNat 0 : Int), ())).bind fun r46 => if 0 ≤ (IntKind.i64.wrap (i28 - 1)) ∧ (IntKind.i64.wrap (i28 - 1)) < (r46.1.1.length : Int) then some ((i26, (r46.1.1.getD (IntKind.i64.wrap (i28 - 1)).toNat 0, (true, ()))), ()) else none else none else l11 k x25 i26 i27 (IntKind.i64.wrap (i28 + 1)) x29 i30 i31 i32 i33 x34 i35 x36 x37 x38 else none else none else l8 k x25 i26 x29 i30 i31 i32 (IntKind.i64.wrap (i33 + 1)) x34 i35 x36 x37 x38 := by kernel_rfl
variable (toArray_1 : LL) (toArray_2 : Int) (toArray_3 : LI) (toArray_4 : LM)
noncomputable def T : Option ((Int × Int × Bool × Unit) × (Unit)) := l2 k toArray_1 (toArray_1.length : Int) (0 : Int) toArray_1 toArray_2 toArray_3 toArray_4
theorem of {r} (h : Ev (fun k => T k toArray_1 toArray_2 toArray_3 toArray_4) r) : F ((toArray_1, (toArray_2, (toArray_3, toArray_4))), ()) = some r := Ev.run (fun k => by kernel_rfl) h
theorem S : a3x prog ⟨193, sig, F⟩ := sound_k (res := [.tmp 2, .tmp 3, .tmp 4]) func193 (cok (cM ⟨Ab4.S, cM ⟨Ac3.S, cM ⟨Ah8.S, cM ⟨Aj7.S, nM⟩⟩⟩⟩))
end Aa8
namespace Ag7
noncomputable def sig : Sig := ⟨[pS], [oB]⟩
noncomputable def cfg : Cfg := cf (cx [⟨192, Ac8.sig, Ac8.F⟩, ⟨193, Aa8.sig, Aa8.F⟩])
noncomputable def fin := finK cfg.c sig [.tmp 2]
noncomputable def F (d : SF × Unit) : OB := anyK (a9q cfg fin (bd f103) (a5e sig.ps d 17))
variable (s_1 : LL) (s_2 : Int) (s_3 : LI) (s_4 : LM)
noncomputable def T : OB := (Ac8.F ((s_1, (s_2, (s_3, s_4))), ())).bind fun r5 => if (!r5.1.1) = true then some ((false, ()), ()) else (Aa8.F ((s_1, (s_2, (s_3, s_4))), ())).bind fun r6 => some ((!r6.1.2.2.1, ()), ())
theorem eq : F ((s_1, (s_2, (s_3, s_4))), ()) = T s_1 s_2 s_3 s_4 := eq_any fun k => by kernel_rfl
theorem S : a3x prog ⟨103, sig, F⟩ := sound_k (res := [.tmp 2]) func103 (cok (cM ⟨Ac8.S, cM ⟨Aa8.S, nM⟩⟩))
end Ag7
namespace Am1
noncomputable def sig : Sig := ⟨[pL, qC], [oB]⟩
noncomputable def cfg : Cfg := cf (cx [⟨107, Aa5.sig, Aa5.F⟩])
noncomputable def fin := finK cfg.c sig [.tmp 3]
noncomputable def F (d : LI × LL × Unit) : OB := anyK (a9q cfg fin (bd f276) (a5e sig.ps d 8))
variable (s_1 : LI) (a_2 : LL)
noncomputable def T : OB := (Aa5.F (a_2, s_1, ())).bind fun r3 => some ((decide (r3.1.1 < 0), ()), ())
theorem eq : F (s_1, a_2, ()) = T s_1 a_2 := eq_any fun k => by kernel_rfl
theorem S : a3x prog ⟨276, sig, F⟩ := sound_k (res := [.tmp 3]) func276 (cok (cM ⟨Aa5.S, nM⟩))
noncomputable def cloG (y : LL × Unit) (d : LI × Unit) : Option (Bool × Unit) := (F (a9c [.rptr tQ] [(false, tL)] d y)).map (·.1)
noncomputable def clo : Clo := ⟨276, ⟨[(false, tL)], [(.val false, .bool, .deep)]⟩, [.rptr tQ], cloG⟩
theorem cloS : a2b prog clo := sound_clo (s := ⟨[(false, tL)], [(.val false, .bool, .deep)]⟩) (caps := [.rptr tQ]) rfl S
end Am1
namespace Ak4
noncomputable def sig : Sig := ⟨[pC, pC], [oB]⟩
noncomputable def cfg : Cfg := cf ⟨a2X tabl, [⟨196, Ad8.sig, Ad8.F⟩], [Am1.clo], [], [], []⟩
noncomputable def fin := finK cfg.c sig [.tmp 4]
noncomputable def F (d : LL × LL × Unit) : OB := anyK (a9q cfg fin (bd f205) (a5e sig.ps d 10))
variable (part_1 c_2 : LL)
noncomputable def T : OB := (Ad8.F (part_1, Am1.cloG (c_2, ()), ())).bind fun r3 => some ((!r3.1.1, ()), ())
theorem eq : F (part_1, c_2, ()) = T part_1 c_2 := eq_any fun k => by kernel_rfl
theorem S : a3x prog ⟨205, sig, F⟩ := sound_k (res := [.tmp 4]) func205 (⟨nM, mixed_ok, tab_ok tab_good, cM ⟨Ad8.S, nM⟩, cM ⟨Am1.cloS, nM⟩, nM⟩)
end Ak4
namespace Am2
noncomputable def sig : Sig := ⟨[pS, pC], [oI]⟩
noncomputable def cfg : Cfg := cf (cx [⟨103, Ag7.sig, Ag7.F⟩, ⟨104, Ac7.sig, Ac7.F⟩, ⟨205, Ak4.sig, Ak4.F⟩])
noncomputable def fin := finK cfg.c sig [.tmp 4]
noncomputable def F (d : SF × LL × Unit) : OI := anyK (a9q cfg fin (bd f109) (a5e sig.ps d 20))
variable (s_1 : LL) (s_2 : Int) (s_3 : LI) (s_4 : LM) (part_5 : LL)
noncomputable def T : OI := (Ag7.F ((s_1, (s_2, (s_3, s_4))), ())).bind fun r6 => if (!r6.1.1) = true then some ((1, ()), ()) else (Ac7.F (part_5, ())).bind fun r7 => if (!r7.1.1) = true then some ((1, ()), ()) else (Ak4.F (part_5, s_1, ())).bind fun r8 => if (!r8.1.1) = true then some ((6, ()), ()) else some ((0, ()), ())
theorem eq : F ((s_1, (s_2, (s_3, s_4))), part_5, ()) = T s_1 s_2 s_3 s_4 part_5 := eq_any fun k => by kernel_rfl
theorem S : a3x prog ⟨109, sig, F⟩ := sound_k (res := [.tmp 4]) func109 (cok (cM ⟨Ag7.S, cM ⟨Ac7.S, cM ⟨Ak4.S, nM⟩⟩⟩))
end Am2
namespace Ah5
noncomputable def sig : Sig := ⟨[pQ], [oQ]⟩
noncomputable def cfg : Cfg := cl (cx [⟨157, Aa6.sig, Aa6.F⟩]) fun id => match id with | 3 => ([3, 6, 7, 8], [12]) | _ => ([], [])
noncomputable def fin := finK cfg.c sig [.tmp 2]
noncomputable def F (d : LL × Unit) : OQ := anyK (a9q cfg fin (bd f156) (a5e sig.ps d 19))
variable (k : Nat) (x2 : LL) (i3 i4 : Int) (x5 : LL)
noncomputable def l3 : OQ := Vm.runT cfg fin k [.inLoop (sub [1, 1, 0, 1, 0, 0] (bd f156)), .inBlock 0, .code (sub [1, 1, 1] (bd f156))] ⟨[dD, dD, dD, .view 12 (.root 0) 1 false, dD, dD, vQ x2, vI i3, vI i4] ++ a8I 10, [(12, ⟨false, [dQ x5]⟩)]⟩
theorem l3_eq : l3 (k + 1) x2 i3 i4 x5 = if (decide (i4 < i3)) = true then if 0 ≤ i4 ∧ i4 < (x2.length : Int) then (Aa6.F (x2.getD i4.toNat ([] : LI), ())).bind fun r6 => if x5.length + [r6.1.1].length ≤ bigA then l3 k x2 i3 (IntKind.i64.wrap (i4 + 1)) (x5 ++ [r6.1.1]) else none else none else some ((x5, ()), ()) := by kernel_rfl
variable (lists_1 : LL)
noncomputable def T : OQ := l3 k lists_1 (lists_1.length : Int) (0 : Int) ([])
theorem of {r} (h : Ev (fun k => T k lists_1) r) : F (lists_1, ()) = some r := Ev.run (fun k => by kernel_rfl) h
theorem S : a3x prog ⟨156, sig, F⟩ := sound_k (res := [.tmp 2]) func156 (cok (cM ⟨Aa6.S, nM⟩))
end Ah5
namespace Al8
noncomputable def sig : Sig := sortS
noncomputable def F (d : LL × ((LI × LI × Unit) → Option (Int × Unit)) × Unit) : Option ((Unit) × (LL × Unit)) := sortF ordS d
def ren : Go.Shelf.Ren := ⟨fun | 6 => 257 | 14 => 289 | 15 => 288 | 20 => 306 | 21 => 307 | 22 => 308 | 23 => 309 | 24 => 310 | 25 => 311 | 26 => 312 | 27 => 313 | 28 => 304 | 29 => 305 | 46 => 321 | 47 => 317 | 48 => 318 | 49 => 322 | 50 => 323 | 57 => 325 | n => n, fun | 0 => 0 | 3 => 3 | 4 => 4 | 5 => 5 | 9 => 9 | 22 => 22 | 24 => 25 | 25 => 189 | 39 => 235 | 45 => 246 | 46 => 247 | 50 => 193 | 53 => 253 | 55 => 255 | 66 => 262 | 70 => 266 | 76 => 270 | 77 => 271 | n => n, fun n => n⟩
theorem lays : Go.Proofs.SlLaysF.n6 prog ren where
  mixed := by kernel_rfl
  f6 := ⟨"slices.SortFunc[[][]int64,[]int64]", by decide, func257.trans (congrArg some (by kernel_rfl))⟩
  f14 := ⟨"slices.pdqsortCmpFunc[[]int64]", by decide, func289.trans (congrArg some (by kernel_rfl))⟩
  f15 := func288.trans (congrArg some (by kernel_rfl))
  f20 := ⟨"slices.insertionSortCmpFunc[[]int64]", by decide, func306.trans (congrArg some (by kernel_rfl))⟩
  f21 := ⟨"slices.heapSortCmpFunc[[]int64]", by decide, func307.trans (congrArg some (by kernel_rfl))⟩
  f22 := ⟨"slices.breakPatternsCmpFunc[[]int64]", by decide, func308.trans (congrArg some (by kernel_rfl))⟩
  f23 := ⟨"slices.choosePivotCmpFunc[[]int64]", by decide, func309.trans (congrArg some (by kernel_rfl))⟩
  f24 := ⟨"slices.reverseRangeCmpFunc[[]int64]", by decide, func310.trans (congrArg some (by kernel_rfl))⟩
  f25 := ⟨"slices.partialInsertionSortCmpFunc[[]int64]", by decide, func311.trans (congrArg some (by kernel_rfl))⟩
  f26 := ⟨"slices.partitionEqualCmpFunc[[]int64]", by decide, func312.trans (congrArg some (by kernel_rfl))⟩
  f27 := ⟨"slices.partitionCmpFunc[[]int64]", by decide, func313.trans (congrArg some (by kernel_rfl))⟩
  f28 := func304.trans (congrArg some (by kernel_rfl))
  f29 := func305.trans (congrArg some (by kernel_rfl))
  f46 := ⟨"slices.siftDownCmpFunc[[]int64]", by decide, func321.trans (congrArg some (by kernel_rfl))⟩
  f47 := func317.trans (congrArg some (by kernel_rfl))
  f48 := func318.trans (congrArg some (by kernel_rfl))
  f49 := ⟨"slices.medianAdjacentCmpFunc[[]int64]", by decide, func322.trans (congrArg some (by kernel_rfl))⟩
  f50 := ⟨"slices.medianCmpFunc[[]int64]", by decide, func323.trans (congrArg some (by kernel_rfl))⟩
  f57 := ⟨"slices.order2CmpFunc[[]int64]", by decide, func325.trans (congrArg some (by kernel_rfl))⟩
  t0 := underlying0
  a0 := isAgg0
  z0 := sizeOf0
  v0 := zeroValue0
  t3 := underlying3
  a3 := isAgg3
  z3 := sizeOf3
  v3 := zeroValue3
  t4 := underlying4
  a4 := isAgg4
  z4 := sizeOf4
  v4 := zeroValue4
  t5 := underlying5
  a5 := isAgg5
  z5 := sizeOf5
  v5 := zeroValue5
  t9 := underlying9
  a9 := isAgg9
  z9 := sizeOf9
  v9 := zeroValue9
  t22 := underlying22
  a22 := isAgg22
  z22 := sizeOf22
  v22 := zeroValue22
  a24 := isAgg25
  z24 := sizeOf25
  t25 := underlying189
  a25 := isAgg189
  z25 := sizeOf189
  v25 := zeroValue189
  t39 := underlying235
  a39 := isAgg235
  z39 := sizeOf235
  v39 := zeroValue235
  t45 := underlying246
  a45 := isAgg246
  z45 := sizeOf246
  v45 := zeroValue246
  t46 := underlying247
  a46 := isAgg247
  z46 := sizeOf247
  v46 := zeroValue247
  t50 := underlying193
  a50 := isAgg193
  z50 := sizeOf193
  v50 := zeroValue193
  t53 := underlying253
  a53 := isAgg253
  z53 := sizeOf253
  v53 := zeroValue253
  t55 := underlying255
  a55 := isAgg255
  z55 := sizeOf255
  v55 := zeroValue255
  t66 := underlying262
  a66 := isAgg262
  z66 := sizeOf262
  v66 := zeroValue262
  t70 := underlying266
  a70 := isAgg266
  z70 := sizeOf266
  v70 := zeroValue266
  t76 := underlying270
  a76 := isAgg270
  z76 := sizeOf270
  v76 := zeroValue270
  t77 := underlying271
  a77 := isAgg271
  z77 := sizeOf271
  v77 := zeroValue271
theorem S : a3x prog ⟨257, sig, F⟩ := sort_sound lays ordS_swo ordS_tot
end Al8
namespace Al7
noncomputable def sig : Sig := compS
noncomputable def F (d : LL × ((LI × LI × Unit) → Option (Bool × Unit)) × Unit) : OQ := compF d
theorem emp (p : Option Addr) (cap : Nat) (fv : Value) (w : World) : Calls prog 258 #[.slice p 0 cap, fv] w fun e w' => e = .returned (.slice p 0 cap) ∧ w' = w := by
  go_enter func258, ntmps258
  go_wp2
  go_ret
  exact ⟨rfl, rfl⟩
open Go.Proofs Go.Shelf Go.RowKit Go.Lib Go.Sort in
set_option maxHeartbeats 16000000 in
set_option maxRecDepth 1000000 in
theorem walk {α : Type} [Inhabited α] (enc : α → Value) (hO : OneCell enc) (eq : α → α → Bool) (zr : α) (hz : enc zr = .slice none 0 0) (g : Nat) (cb : Array Value) (eg : ∀ args w, (callFunc g args).run prog w = .ok (.enter g args) w)
    (blk off cap : Nat) (d : Array α) (w : World) (hcmp : a9O prog g cb enc eq blk off d.size w) (hH : Holds enc w blk off d) (hblk : blk < w.heap.size) (hsz : d.size < 4611686018427387904) (hcap : d.size ≤ cap) (kp : Nat → Bool) (hkp0 : kp 0 = true) (hkp : ∀ j, 0 < j → kp j = !(eq d[j]! d[j - 1]!)) :
    Calls prog 258 #[.slice (some ⟨blk, off, none⟩) d.size cap, .func (.func g) #[] cb] w fun e w' => e = .returned (.slice (some ⟨blk, off, none⟩) (keptUpTo kp d d.size).length cap) ∧ SW enc w blk off (keptUpTo kp d d.size ++ List.replicate (d.size - (keptUpTo kp d d.size).length) zr).toArray w' := by
  have mixed : prog.follows .mixedOrders = true := mixed_ok
  have hcl0 := hO.cells
  simp only [Value.cells] at hcl0
  have hst := hO.store prog
  have R : Row1 enc w blk off d := ⟨hO, hH, hblk⟩
  have HC : Aside (a9O prog g cb enc eq blk off d.size w) := hcmp
  have S0 : Aside (SW enc w blk off d w) := SW.start hH
  have same : ∀ W, SW enc w blk off d W → (∀ j, j < d.size → kp j = true) → (keptUpTo kp d d.size).length = d.size ∧ SW enc w blk off (keptUpTo kp d d.size ++ List.replicate (d.size - (keptUpTo kp d d.size).length) zr).toArray W := by
    intro W hW hall
    have e : keptUpTo kp d d.size = d.toList := by rw [keptUpTo_all kp d _ hall, range_map_get]
    rw [e]
    refine ⟨by simp, ?_⟩
    simpa using hW
  have HS : Aside _ := same
  have K0 : Aside (kp 0 = true) := hkp0
  have K1 : Aside (∀ j, 0 < j → kp j = !(eq d[j]! d[j - 1]!)) := hkp
  clear hcmp same hkp0 hkp hH
  by_cases h2 : d.size < 2
  · go_enter func258, ntmps258
    go_wp2
    go_ret
    obtain ⟨e1, e2⟩ := HS.out _ S0.out (fun j hj => by
      have : j = 0 := by omega
      rw [this]; exact K0.out)
    exact ⟨by rw [e1]; rfl, e2⟩
  · go_enter func258, ntmps258
    go_wp2
    go_loopg [5] d.size (fun g1 s5 wr => ∃ k : Nat, s5 = .int .i64 k ∧ 1 ≤ k ∧ k ≤ d.size ∧ d.size - k ≤ g1 ∧ Aside (SW enc w blk off d wr) ∧ Hid (∀ j, j < k → kp j = true))
    case atStart => exact ⟨1, rfl, Nat.le_refl _, by omega, by omega, S0, fun j hj => by
      have : j = 0 := by omega
      rw [this]; exact K0.out⟩
    case round =>
      clear S0
      obtain ⟨k, rfl, hk1, hk, hg1, S1, HA⟩ := hrel
      by_cases hlt : k < d.size
      · have hltz : (k : Int) < (d.size : Int) := by omega
        obtain ⟨kq, hkq⟩ : ∃ q, q + 1 = k := ⟨k - 1, by omega⟩
        have zk : (k : Int) = (kq : Int) + 1 := by omega
        obtain ⟨iN, hiN⟩ : ∃ q, q = k := ⟨_, rfl⟩
        obtain ⟨jN, hjN⟩ : ∃ q, q = k - 1 := ⟨_, rfl⟩
        have ea : ((kq : Int) + 1).toNat = iN := by omega
        have pa : (0 : Int) ≤ (kq : Int) + 1 := by omega
        have ba : (kq : Int) + 1 < (d.size : Int) := by omega
        have ra : IntKind.i64.wrap ((kq : Int) + 1) = (kq : Int) + 1 := by rw [IntKind.wrap_i64]; omega
        have ec : ((kq : Int)).toNat = jN := by omega
        have pc : (0 : Int) ≤ (kq : Int) := by omega
        have bc : (kq : Int) < (d.size : Int) := by omega
        have rc : IntKind.i64.wrap ((kq : Int)) = (kq : Int) := by rw [IntKind.wrap_i64]; omega
        obtain ⟨x, hx⟩ : ∃ x, x = d[k]! := ⟨_, rfl⟩
        obtain ⟨y, hy⟩ : ∃ x, x = d[k - 1]! := ⟨_, rfl⟩
        have la := S1.out.cl R rfl k (by omega)
        have lb := S1.out.cl R rfl (k - 1) (by omega)
        rw [← hx, ← hiN] at la
        rw [← hy, ← hjN] at lb
        have hc := sw_eql S1.out HC.out rfl x y
        have KK : Aside (kp k = !(eq x y)) := by rw [hx, hy]; exact K1.out k (by omega)
        clear hx hy hiN hjN
        cases hv : eq x y with
        | true =>
          rw [hv] at hc KK
          go_wp2_with fail
          go_quiet_grown (first | (go_at_fn g; refine Calls.grown_of (hc _ _)))
          have S2 : Aside (SW enc w blk off d (grow (wr.drewN nq) osq)) := S1.out.grown nq osq
          clear la lb hc S1
          generalize grow (wr.drewN nq) osq = w2 at S2 ⊢
          clear nq osq
          clear ea ec pa ba ra pc bc rc
          have hzk : (kq : Int) + 1 = (k : Int) := by omega
          clear zk hkq
          simp only [hzk]
          clear hzk
          go_wp2
          go_loopg [5, 7] d.size (fun g2 s5 s7 wr2 => ∃ (kk k2 : Nat) (dk : Array α), s5 = .int .i64 kk ∧ s7 = .int .i64 k2 ∧ 1 ≤ k2 ∧ k + k2 ≤ d.size ∧ d.size - (k + k2) ≤ g2 ∧ Aside (SW enc w blk off dk wr2) ∧ Aside (KeptInv kp d (k + k2) kk dk))
          case atStart => exact ⟨k, 1, d, rfl, rfl, Nat.le_refl _, by omega, by omega, S2, KeptInv.start HA.out (by rw [KK.out]; rfl)⟩
          case round =>
            clear S2 KK HA
            obtain ⟨kk, k2, dk, rfl, rfl, h1, hle, hg2, S3, I2⟩ := hrel
            have hkk := I2.out.lt
            have hds := I2.out.size
            by_cases hlt2 : k + k2 < d.size
            · obtain ⟨kq, hkq⟩ : ∃ q, q + 1 = k2 := ⟨k2 - 1, by omega⟩
              have zk : (k2 : Int) = (kq : Int) + 1 := by omega
              obtain ⟨iN, hiN⟩ : ∃ q, q = k2 := ⟨_, rfl⟩
              obtain ⟨jN, hjN⟩ : ∃ q, q = k2 - 1 := ⟨_, rfl⟩
              have ea : ((kq : Int) + 1).toNat = iN := by omega
              have pa : (0 : Int) ≤ (kq : Int) + 1 := by omega
              have ba : (kq : Int) + 1 < ((d.size - k : Nat) : Int) := by omega
              have ra : IntKind.i64.wrap ((kq : Int) + 1) = (kq : Int) + 1 := by rw [IntKind.wrap_i64]; omega
              have ec : ((kq : Int)).toNat = jN := by omega
              have pc : (0 : Int) ≤ (kq : Int) := by omega
              have bc : (kq : Int) < ((d.size - k : Nat) : Int) := by omega
              have rc : IntKind.i64.wrap ((kq : Int)) = (kq : Int) := by rw [IntKind.wrap_i64]; omega
              obtain ⟨x, hx⟩ : ∃ x, x = d[k + k2]! := ⟨_, rfl⟩
              obtain ⟨y, hy⟩ : ∃ x, x = d[k + k2 - 1]! := ⟨_, rfl⟩
              have la := S3.out.cl R hds (k + k2) (by omega)
              have lb := S3.out.cl R hds (k + k2 - 1) (by omega)
              rw [I2.out.high (k + k2) (by omega), ← hx, show off + (k + k2) = off + k + iN by omega] at la
              rw [I2.out.high (k + k2 - 1) (by omega), ← hy, show off + (k + k2 - 1) = off + k + jN by omega] at lb
              have hc := sw_eql S3.out HC.out hds x y
              have KK : Aside (kp (k + k2) = !(eq x y)) := by rw [hx, hy]; exact K1.out (k + k2) (by omega)
              have XX : Aside (x = d[k + k2]!) := hx
              clear hx hy hiN hjN
              cases hv : eq x y with
              | true =>
                rw [hv] at hc KK
                go_wp2_with fail
                go_quiet_grown (first | (go_at_fn g; refine Calls.grown_of (hc _ _)))
                have S2 : Aside (SW enc w blk off dk (grow (wr.drewN nq) osq)) := S3.out.grown nq osq
                clear la lb hc S3
                generalize grow (wr.drewN nq) osq = w2 at S2 ⊢
                clear nq osq
                clear ea ec
                go_wp2
                go_roundg (d.size - (k + (k2 + 1)))
                case measure => omega
                case rel => exact ⟨kk, k2 + 1, dk, rfl, by go_num, by omega, by omega, Nat.le_refl _, S2, I2.out.skip (by rw [KK.out]; rfl)⟩
              | false =>
                rw [hv] at hc KK
                go_wp2_with fail
                go_quiet_grown (first | (go_at_fn g; refine Calls.grown_of (hc _ _)))
                have S2 : Aside (SW enc w blk off dk (grow (wr.drewN nq) osq)) := S3.out.grown nq osq
                clear la lb hc S3
                generalize grow (wr.drewN nq) osq = w2 at S2 ⊢
                clear nq osq
                clear ea ec pa ba ra pc bc rc
                have hzk : (kq : Int) + 1 = (k2 : Int) := by omega
                clear zk hkq
                simp only [hzk]
                clear hzk
                have cm := S2.out.c1 R hds (k + k2) (by omega)
                have ck := S2.out.c1 R hds kk (by omega)
                have fk := S2.out.f1 R hds kk (by omega)
                rw [I2.out.high (k + k2) (by omega), ← XX.out, show off + (k + k2) = off + k + k2 by omega] at cm
                generalize dk[kk]! = old at ck
                have hlz : (k2 : Int) < ((d.size - k : Nat) : Int) := by omega
                go_wp2
                go_roundg (d.size - (k + (k2 + 1)))
                case measure => omega
                case rel => exact ⟨kk + 1, k2 + 1, dk.setIfInBounds kk x, by go_num, by go_num, by omega, by omega, Nat.le_refl _, sw_set S2.out hblk kk x (by omega), (by have := I2.out.keep hlt2 (by rw [KK.out]; rfl); rwa [← XX.out] at this)⟩
            · have hend : k + k2 = d.size := by omega
              have hcl : ∀ ty, (Builtin.clear_ #[22] ty #[.slice (some ⟨blk, off + kk, none⟩) (d.size - kk) (cap - kk)]).run prog wr = .ok (.tuple #[]) (wr.setCells blk (off + kk) (List.replicate (d.size - kk) (enc zr))) :=
                fun ty => Lib.run_clear_slice wr _ _ ty _ underlying22 (fun w => by rw [hz]; exact zeroValue25 w) (hO.cells zr) (hO zr) blk (off + kk) _ _ (by omega) (fun j hj => by rw [show off + kk + j = off + (kk + j) by omega, S3.out.c1 R hds (kk + j) (by omega)]; rfl) (fun j hj => by rw [show off + kk + j = off + (kk + j) by omega]; exact S3.out.f1 R hds (kk + j) (by omega))
              go_wp2
              go_ret
              have hI := I2.out
              rw [hend] at hI
              refine ⟨by rw [hI.len]; rfl, ?_⟩
              rw [hI.len, ← hI.done zr]
              have := sw_lay hblk (List.replicate (d.size - kk) zr) dk _ kk S3.out (by simp; omega)
              rw [List.map_replicate, hz] at this
              exact this
        | false =>
          rw [hv] at hc KK
          go_wp2_with fail
          go_quiet_grown (first | (go_at_fn g; refine Calls.grown_of (hc _ _)))
          have S2 : Aside (SW enc w blk off d (grow (wr.drewN nq) osq)) := S1.out.grown nq osq
          clear la lb hc S1
          generalize grow (wr.drewN nq) osq = w2 at S2 ⊢
          clear nq osq
          clear ea ec
          go_wp2
          go_roundg (d.size - (k + 1))
          case measure => omega
          case rel =>
            refine ⟨k + 1, by go_num, by omega, by omega, Nat.le_refl _, S2, fun j hj => ?_⟩
            by_cases e : j = k
            · subst e; exact KK.out
            · exact HA.out j (by omega)
      · have : k = d.size := by omega
        subst this
        go_wp2
        go_ret
        obtain ⟨e1, e2⟩ := HS.out _ S1.out HA.out
        exact ⟨by rw [e1]; rfl, e2⟩
theorem S : a3x prog ⟨258, sig, F⟩ := comp_sound ⟨⟨_, func258, by kernel_rfl, by kernel_rfl⟩, emp, walk⟩
end Al7
namespace Ag9
noncomputable def sig : Sig := ⟨[pQ], [oC]⟩
noncomputable def cfg : Cfg := cf ⟨a2X tabl, [⟨156, Ah5.sig, Ah5.F⟩, ⟨257, Al8.sig, Al8.F⟩, ⟨258, Al7.sig, Al7.F⟩], [Aa9.clo, Ac4.clo], [], [], []⟩
noncomputable def fin := finK cfg.c sig [.cell 2 32]
noncomputable def F (d : LL × Unit) : OQ := anyK (a9q cfg fin (bd f188) (a5e sig.ps d 11))
variable (list_1 : LL)
noncomputable def T : OQ := (Ah5.F (list_1, ())).bind fun r2 => (Al8.F (r2.1.1, Aa9.cloG (()), ())).bind fun r3 => (Al7.F (r3.2.1, Ac4.cloG (()), ())).bind fun r4 => some ((r4.1.1, ()), ())
theorem eq : F (list_1, ()) = T list_1 := eq_any fun k => by kernel_rfl
theorem S : a3x prog ⟨188, sig, F⟩ := sound_k (res := [.cell 2 32]) func188 (⟨nM, mixed_ok, tab_ok tab_good, cM ⟨Ah5.S, cM ⟨Al8.S, cM ⟨Al7.S, nM⟩⟩⟩, cM ⟨Aa9.cloS, cM ⟨Ac4.cloS, nM⟩⟩, nM⟩)
end Ag9
namespace Ah6
noncomputable def sig : Sig := ⟨[pM], [oM]⟩
noncomputable def cfg : Cfg := cf (cx [⟨157, Aa6.sig, Aa6.F⟩])
noncomputable def fin := finK cfg.c sig [.cell 2 87]
noncomputable def F (d : MX × Unit) : OM := anyK (a9q cfg fin (bd f211) (a5e sig.ps d 8))
variable (m_1 m_2 m_3 : Int) (m_4 : LI)
noncomputable def T : OM := (Aa6.F (m_4, ())).bind fun r5 => some (((m_1, (m_2, (m_3, r5.1.1))), ()), ())
theorem eq : F ((m_1, (m_2, (m_3, m_4))), ()) = T m_1 m_2 m_3 m_4 := eq_any fun k => by kernel_rfl
theorem S : a3x prog ⟨211, sig, F⟩ := sound_k (res := [.cell 2 87]) func211 (cok (cM ⟨Aa6.S, nM⟩))
end Ah6
namespace Af9
noncomputable def sig : Sig := ⟨[pC, pI, pL, .fnx ⟨[(true, TEdge)], [(.val true, TMatrix, .sh)]⟩], [oS]⟩
noncomputable def cfg : Cfg := cl (cx [⟨157, Aa6.sig, Aa6.F⟩, ⟨188, Ag9.sig, Ag9.F⟩, ⟨210, Ab8.sig, Ab8.F⟩, ⟨211, Ah6.sig, Ah6.F⟩]) fun id => match id with | 3 => ([3, 8, 9, 20, 21, 22], [32, 36, 80]) | _ => ([], [])
noncomputable def fin := finK cfg.c sig [.cell 8 46]
noncomputable def F (d : LL × Int × LI × (((Int × Int × Int) × Unit) → Option (MX × Unit)) × Unit) : OS := anyK (a9q cfg fin (bd f122) (a5e sig.ps d 37))
variable (k : Nat) (f8 : ((Int × Int × Int) × Unit) → Option (MX × Unit)) (i9 i10 : Int) (x11 : LL) (i12 : Int) (x13 : LI) (x14 : LM) (x15 : LL) (i16 : Int) (x17 : LI) (x18 : LM) (x19 : List (Int × Int × Int))
noncomputable def l3 : OS := Vm.runT cfg fin k [.inLoop (sub [1, 1, 0, 1, 0, 0] (bd f122)), .inBlock 0, .code (sub [1, 1, 1] (bd f122))] ⟨[dD, dD, dD, .fnx ⟨[(true, TEdge)], [(.val true, TMatrix, .sh)]⟩ f8, dD, dD, dD, dD, .ref 32 (.root 0), .ref 36 (.root 0), dD, dD, dD, dD, dD, dD, dD, dD, dD, dD, .view 80 (.root 0) 1 false, vI i9, vI i10] ++ a8I 14, [(32, ⟨true, [dQ x11, cI i12, dL x13, ⟨(.sl TMatrix), .deep, x14⟩]⟩), (36, ⟨true, [dQ x15, cI i16, dL x17, ⟨(.sl TMatrix), .deep, x18⟩]⟩), (80, ⟨false, [⟨(.sl TEdge), .deep, x19⟩]⟩)]⟩
theorem l3_eq : l3 (k + 1) f8 i9 i10 x11 i12 x13 x14 x15 i16 x17 x18 x19 = if (decide (i10 < i9)) = true then if 0 ≤ i10 ∧ i10 < (x19.length : Int) then (f8 (x19.getD i10.toNat (0, 0, 0), ())).bind fun r20 => (Ah6.F (r20.1, ())).bind fun r21 => if x18.length + [r21.1.1].length ≤ bigA then l3 k f8 i9 (IntKind.i64.wrap (i10 + 1)) x11 i12 x13 x14 x15 i16 x17 (x18 ++ [r21.1.1]) x19 else none else none else some (((x15, (i16, (x17, x18))), ()), ()) := by kernel_rfl
variable (c_1 : LL) (p_2 : Int) (stalks_3 : LI) (f_4 : ((Int × Int × Int) × Unit) → Option (MX × Unit))
noncomputable def T : OS := (Ag9.F (c_1, ())).bind fun r5 => (Aa6.F (stalks_3, ())).bind fun r6 => (Ab8.F (c_1, ())).bind fun r7 => l3 k f_4 (r7.1.1.length : Int) (0 : Int) ([]) 0 ([]) ([]) r5.1.1 p_2 r6.1.1 ([]) r7.1.1
theorem of {r} (h : Ev (fun k => T k c_1 p_2 stalks_3 f_4) r) : F (c_1, p_2, stalks_3, f_4, ()) = some r := Ev.run (fun k => by kernel_rfl) h
theorem S : a3x prog ⟨122, sig, F⟩ := sound_k (res := [.cell 8 46]) func122 (cok (cM ⟨Aa6.S, cM ⟨Ag9.S, cM ⟨Ab8.S, cM ⟨Ah6.S, nM⟩⟩⟩⟩))
end Af9
namespace An2
noncomputable def sig : Sig := ⟨[pI, pI], [oI]⟩
noncomputable def cfg : Cfg := cf (cx [])
noncomputable def fin := finK cfg.c sig [.tmp 4]
noncomputable def F (d : Int × Int × Unit) : OI := anyK (a9q cfg fin (bd f215) (a5e sig.ps d 5))
noncomputable def T (i_1 j_2 : Int) : OI := some ((0, ()), ())
theorem eq (i_1 j_2 : Int) : F (i_1, j_2, ()) = T i_1 j_2 := eq_any fun k => by kernel_rfl
theorem S : a3x prog ⟨215, sig, F⟩ := sound_k (res := [.tmp 4]) func215 (cok nM)
noncomputable def cloG (y : Unit) (d : Int × Int × Unit) : Option (Int × Unit) := (F (a9c [] [(false, tI), (false, tI)] d y)).map (·.1)
noncomputable def clo : Clo := ⟨215, ⟨[(false, tI), (false, tI)], [(.val false, tI, .deep)]⟩, [], cloG⟩
theorem cloS : a2b prog clo := sound_clo (s := ⟨[(false, tI), (false, tI)], [(.val false, tI, .deep)]⟩) (caps := []) rfl S
end An2
namespace Aj0
noncomputable def sig : Sig := ⟨[pI, pI, pI], [oM]⟩
noncomputable def cfg : Cfg := cf ⟨a2X tabl, [⟨135, Ab1.sig, Ab1.F⟩], [An2.clo], [], [], []⟩
noncomputable def fin := finK cfg.c sig [.cell 6 87]
noncomputable def F (d : Int × Int × Int × Unit) : OM := anyK (a9q cfg fin (bd f127) (a5e sig.ps d 11))
variable (p_1 rows_2 columns_3 : Int)
noncomputable def T : OM := (Ab1.F (p_1, rows_2, columns_3, An2.cloG (()), ())).bind fun r4 => some ((r4.1.1, ()), ())
theorem eq : F (p_1, rows_2, columns_3, ()) = T p_1 rows_2 columns_3 := eq_any fun k => by kernel_rfl
theorem S : a3x prog ⟨127, sig, F⟩ := sound_k (res := [.cell 6 87]) func127 (⟨nM, mixed_ok, tab_ok tab_good, cM ⟨Ab1.S, nM⟩, cM ⟨An2.cloS, nM⟩, nM⟩)
end Aj0
namespace Ae6
noncomputable def sig : Sig := ⟨[.val true TEdge, .pfn ⟨[(false, tL)], [oB]⟩, qS, .rptr tL], [(.val true, TMatrix, .sh)]⟩
noncomputable def cfg : Cfg := cf (cx [⟨124, Ab4.sig, Ab4.F⟩, ⟨127, Aj0.sig, Aj0.F⟩])
noncomputable def fin := finK cfg.c sig [.cell 5 87]
noncomputable def F (d : (Int × Int × Int) × ((LI × Unit) → Option (Bool × Unit)) × SF × LI × Unit) : OM := anyK (a9q cfg fin (bd f206) (a5e sig.ps d 45))
variable (a_1 a_2 a_3 : Int) (f_4 : (LI × Unit) → Option (Bool × Unit)) (a_5 : LL) (a_6 : Int) (a_7 : LI) (a_8 : LM) (a_9 : LI)
noncomputable def T : OM := if 0 ≤ a_3 ∧ a_3 < (a_5.length : Int) then (f_4 (a_5.getD a_3.toNat ([] : LI), ())).bind fun r10 => if r10.1 = true then if 0 ≤ a_1 ∧ a_1 < (a_5.length : Int) then (f_4 (a_5.getD a_1.toNat ([] : LI), ())).bind fun r11 => if r11.1 = true then (Ab4.F ((a_5, (a_6, (a_7, a_8))), a_1, a_2, ())).bind fun r12 => some ((r12.1.1, ()), ()) else if 0 ≤ a_1 ∧ a_1 < (a_9.length : Int) then if 0 ≤ a_3 ∧ a_3 < (a_9.length : Int) then (Aj0.F (a_6, (a_9.getD a_1.toNat 0 : Int), (a_9.getD a_3.toNat 0 : Int), ())).bind fun r13 => some ((r13.1.1, ()), ()) else none else none else none else if 0 ≤ a_1 ∧ a_1 < (a_9.length : Int) then if 0 ≤ a_3 ∧ a_3 < (a_9.length : Int) then (Aj0.F (a_6, (a_9.getD a_1.toNat 0 : Int), (a_9.getD a_3.toNat 0 : Int), ())).bind fun r14 => some ((r14.1.1, ()), ()) else none else none else none
theorem eq : F ((a_1, (a_2, a_3)), f_4, (a_5, (a_6, (a_7, a_8))), a_9, ()) = T a_1 a_2 a_3 f_4 a_5 a_6 a_7 a_8 a_9 := eq_any fun k => by kernel_rfl
theorem S : a3x prog ⟨206, sig, F⟩ := sound_k (res := [.cell 5 87]) func206 (cok (cM ⟨Ab4.S, cM ⟨Aj0.S, nM⟩⟩))
noncomputable def cloG (y : ((LI × Unit) → Option (Bool × Unit)) × SF × LI × Unit) (d : (Int × Int × Int) × Unit) : Option (MX × Unit) := (F (a9c [.pfn ⟨[(false, tL)], [(.val false, .bool, .deep)]⟩, .rptr TSheaf, .rptr tL] [(true, TEdge)] d y)).map (·.1)
noncomputable def clo : Clo := ⟨206, ⟨[(true, TEdge)], [(.val true, TMatrix, .sh)]⟩, [.pfn ⟨[(false, tL)], [(.val false, .bool, .deep)]⟩, .rptr TSheaf, .rptr tL], cloG⟩
theorem cloS : a2b prog clo := sound_clo (s := ⟨[(true, TEdge)], [(.val true, TMatrix, .sh)]⟩) (caps := [.pfn ⟨[(false, tL)], [(.val false, .bool, .deep)]⟩, .rptr TSheaf, .rptr tL]) rfl S
end Ae6
namespace Af8
noncomputable def sig : Sig := ⟨[pS, .fnx ⟨[(false, tL)], [oB]⟩], [oS]⟩
noncomputable def cfg : Cfg := cl (⟨a2X tabl, [⟨122, Af9.sig, Af9.F⟩, ⟨157, Aa6.sig, Aa6.F⟩], [Ae6.clo], [], [], []⟩) fun id => match id with | 3 => ([2, 3, 4, 5, 13, 14, 15], [8, 16, 20]) | _ => ([], [])
noncomputable def fin := finK cfg.c sig [.cell 4 46]
noncomputable def F (d : SF × ((LI × Unit) → Option (Bool × Unit)) × Unit) : OS := anyK (a9q cfg fin (bd f110) (a5e sig.ps d 35))
variable (k : Nat) (f7 : (LI × Unit) → Option (Bool × Unit)) (x8 : LL) (i9 i10 : Int) (x11 : LL) (i12 : Int) (x13 : LI) (x14 : LM) (x15 : LL) (i16 : Int) (x17 : LI) (x18 : LM) (x19 : LI)
noncomputable def l3 : OS := Vm.runT cfg fin k [.inLoop (sub [1, 1, 0, 1, 0, 0] (bd f110)), .inBlock 0, .code (sub [1, 1, 1] (bd f110))] ⟨[dD, dD, .ref 8 (.root 0), .pfn (.fnx ⟨[(false, tL)], [(.val false, .bool, .deep)]⟩ f7), .ref 16 (.root 0), .ref 20 (.root 0), dD, dD, dD, dD, dD, dD, dD, vQ x8, vI i9, vI i10] ++ a8I 19, [(8, ⟨true, [cQ x11, cI i12, cL x13, ⟨(.sl TMatrix), .sh, x14⟩]⟩), (16, ⟨true, [dQ x15, cI i16, dL x17, ⟨(.sl TMatrix), .deep, x18⟩]⟩), (20, ⟨true, [dL x19]⟩)]⟩
theorem l3_eq : l3 (k + 1) f7 x8 i9 i10 x11 i12 x13 x14 x15 i16 x17 x18 x19 = if (decide (i10 < i9)) = true then if 0 ≤ i10 ∧ i10 < (x8.length : Int) then (f7 (x8.getD i10.toNat ([] : LI), ())).bind fun r20 => if (!r20.1) = true then if 0 ≤ i10 ∧ i10 < (x19.length : Int) then l3 k f7 x8 i9 (IntKind.i64.wrap (i10 + 1)) x11 i12 x13 x14 x15 i16 x17 x18 (x19.set i10.toNat (0 : Int)) else none else l3 k f7 x8 i9 (IntKind.i64.wrap (i10 + 1)) x11 i12 x13 x14 x15 i16 x17 x18 x19 else none else (Af9.F (x11, i12, x19, Ae6.cloG (f7, (x11, (i12, (x13, x14))), x19, ()), ())).bind fun r21 => some ((r21.1.1, ()), ()) := by kernel_rfl
variable (s_1 : LL) (s_2 : Int) (s_3 : LI) (s_4 : LM) (f_5 : (LI × Unit) → Option (Bool × Unit))
noncomputable def T : OS := (Aa6.F (s_3, ())).bind fun r6 => l3 k f_5 s_1 (s_1.length : Int) (0 : Int) s_1 s_2 s_3 s_4 ([]) 0 ([]) ([]) r6.1.1
theorem of {r} (h : Ev (fun k => T k s_1 s_2 s_3 s_4 f_5) r) : F ((s_1, (s_2, (s_3, s_4))), f_5, ()) = some r := Ev.run (fun k => by kernel_rfl) h
theorem S : a3x prog ⟨110, sig, F⟩ := sound_k (res := [.cell 4 46]) func110 (⟨nM, mixed_ok, tab_ok tab_good, cM ⟨Af9.S, cM ⟨Aa6.S, nM⟩⟩, cM ⟨Ae6.cloS, nM⟩, nM⟩)
end Af8
namespace Al4
noncomputable def sig : Sig := ⟨[pL, qC], [oB]⟩
noncomputable def cfg : Cfg := cf (cx [⟨107, Aa5.sig, Aa5.F⟩])
noncomputable def fin := finK cfg.c sig [.tmp 3]
noncomputable def F (d : LI × LL × Unit) : OB := anyK (a9q cfg fin (bd f112) (a5e sig.ps d 8))
variable (t_1 : LI) (a_2 : LL)
noncomputable def T : OB := (Aa5.F (a_2, t_1, ())).bind fun r3 => some ((decide (r3.1.1 < 0), ()), ())
theorem eq : F (t_1, a_2, ()) = T t_1 a_2 := eq_any fun k => by kernel_rfl
theorem S : a3x prog ⟨112, sig, F⟩ := sound_k (res := [.tmp 3]) func112 (cok (cM ⟨Aa5.S, nM⟩))
noncomputable def cloG (y : LL × Unit) (d : LI × Unit) : Option (Bool × Unit) := (F (a9c [.rptr tQ] [(false, tL)] d y)).map (·.1)
noncomputable def clo : Clo := ⟨112, ⟨[(false, tL)], [(.val false, .bool, .deep)]⟩, [.rptr tQ], cloG⟩
theorem cloS : a2b prog clo := sound_clo (s := ⟨[(false, tL)], [(.val false, .bool, .deep)]⟩) (caps := [.rptr tQ]) rfl S
end Al4
namespace Ag8
noncomputable def sig : Sig := ⟨[pS, pC], [oS, oI]⟩
noncomputable def cfg : Cfg := cf ⟨a2X tabl, [⟨109, Am2.sig, Am2.F⟩, ⟨110, Af8.sig, Af8.F⟩], [Al4.clo], [], [], []⟩
noncomputable def fin := finK cfg.c sig [.cell 4 46, .tmp 5]
noncomputable def F (d : SF × LL × Unit) : Option ((SF × Int × Unit) × (Unit)) := anyK (a9q cfg fin (bd f51) (a5e sig.ps d 17))
variable (s_1 : LL) (s_2 : Int) (s_3 : LI) (s_4 : LM) (part_5 : LL)
noncomputable def T : Option ((SF × Int × Unit) × (Unit)) := (Am2.F ((s_1, (s_2, (s_3, s_4))), part_5, ())).bind fun r6 => if (r6.1.1 != 0) = true then some ((([], (0, ([], []))), (r6.1.1, ())), ()) else (Af8.F ((s_1, (s_2, (s_3, s_4))), Al4.cloG (part_5, ()), ())).bind fun r7 => some ((r7.1.1, ((0 : Int), ())), ())
theorem eq : F ((s_1, (s_2, (s_3, s_4))), part_5, ()) = T s_1 s_2 s_3 s_4 part_5 := eq_any fun k => by kernel_rfl
theorem S : a3x prog ⟨51, sig, F⟩ := sound_k (res := [.cell 4 46, .tmp 5]) func51 (⟨nM, mixed_ok, tab_ok tab_good, cM ⟨Am2.S, cM ⟨Af8.S, nM⟩⟩, cM ⟨Al4.cloS, nM⟩, nM⟩)
end Ag8
namespace Aj1
noncomputable def sig : Sig := ⟨[pS, pC], [oB]⟩
noncomputable def cfg : Cfg := cf (cx [⟨24, Aj2.sig, Aj2.F⟩, ⟨27, Ag4.sig, Ag4.F⟩, ⟨31, Ag1.sig, Ag1.F⟩, ⟨33, Ag3.sig, Ag3.F⟩, ⟨35, Af0.sig, Af0.F⟩, ⟨37, Ad3.sig, Ad3.F⟩, ⟨39, Ae7.sig, Ae7.F⟩, ⟨40, Ac1.sig, Ac1.F⟩, ⟨49, Al6.sig, Al6.F⟩, ⟨50, Ai5.sig, Ai5.F⟩, ⟨51, Ag8.sig, Ag8.F⟩])
noncomputable def fin := finK cfg.c sig [.tmp 4]
noncomputable def F (d : SF × LL × Unit) : OB := anyK (a9q cfg fin (bd f9) (a5e sig.ps d 119))
variable (toArray_1 : LL) (toArray_2 : Int) (toArray_3 : LI) (toArray_4 : LM) (a_5 : LL)
noncomputable def T : OB := (Aj2.F ((toArray_1, (toArray_2, (toArray_3, toArray_4))), (1048576 : Int), ())).bind fun r6 => if (decide (r6.1.1 < 0)) = true then some ((true, ()), ()) else (Af0.F (a_5, r6.1.1, ())).bind fun r7 => if (decide (r7.1.1 < 0)) = true then some ((true, ()), ()) else (Ag4.F ((toArray_1, (toArray_2, (toArray_3, toArray_4))), ())).bind fun r8 => (Ad3.F (a_5, ())).bind fun r9 => (Ai5.F (r8.1.1, r9.1.1, ())).bind fun r10 => (Ag4.F ((toArray_1, (toArray_2, (toArray_3, toArray_4))), ())).bind fun r11 => (Ad3.F (a_5, ())).bind fun r12 => (Ag8.F (r11.1.1, r12.1.1, ())).bind fun r13 => (Ag1.F (r13.1.1, r10.1.1, ())).bind fun r14 => if (!r14.1.1) = true then some ((false, ()), ()) else if (r13.1.2.1 != r10.1.2.1) = true then some ((false, ()), ()) else (Ag4.F ((toArray_1, (toArray_2, (toArray_3, toArray_4))), ())).bind fun r15 => (Ag1.F (r11.1.1, r15.1.1, ())).bind fun r16 => if (!r16.1.1) = true then some ((false, ()), ()) else (Ad3.F (a_5, ())).bind fun r17 => (Ae7.F (r12.1.1, r17.1.1, ())).bind fun r18 => if (!r18.1.1) = true then some ((false, ()), ()) else (Ag3.F (r11.1.1, (1 : Int), ())).bind fun r19 => (Ac1.F (r12.1.1, r19.1.1, ())).bind fun r20 => if (decide (r20.1.1 < 0)) = true then some ((false, ()), ()) else (Ag1.F (r13.1.1, r10.1.1, ())).bind fun r21 => if (!r21.1.1) = true then some ((false, ()), ()) else if (r13.1.2.1 != r10.1.2.1) = true then some ((false, ()), ()) else (Ag3.F (r13.1.1, (1 : Int), ())).bind fun r22 => (Al6.F (r22.2.1, (1 : Int), ())).bind fun r23 => if (decide (r23.1.1 < 0)) = true then some ((false, ()), ()) else if (r23.1.1 != r22.1.1) = true then some ((false, ()), ()) else (Ag4.F ((toArray_1, (toArray_2, (toArray_3, toArray_4))), ())).bind fun r24 => (Ad3.F (a_5, ())).bind fun r25 => (Ag8.F (r24.1.1, r25.1.1, ())).bind fun r26 => (Ag1.F (r26.1.1, r10.1.1, ())).bind fun r27 => if (!r27.1.1) = true then some ((false, ()), ()) else if (r26.1.2.1 != r10.1.2.1) = true then some ((false, ()), ()) else (Al6.F (r22.2.1, (1 : Int), ())).bind fun r28 => if (decide (r28.1.1 < 0)) = true then some ((false, ()), ()) else if (r28.1.1 != r22.1.1) = true then some ((false, ()), ()) else some ((true, ()), ())
theorem eq : F ((toArray_1, (toArray_2, (toArray_3, toArray_4))), a_5, ()) = T toArray_1 toArray_2 toArray_3 toArray_4 a_5 := eq_any fun k => by kernel_rfl
theorem S : a3x prog ⟨9, sig, F⟩ := sound_k (res := [.tmp 4]) func9 (cok (cM ⟨Aj2.S, cM ⟨Ag4.S, cM ⟨Ag1.S, cM ⟨Ag3.S, cM ⟨Af0.S, cM ⟨Ad3.S, cM ⟨Ae7.S, cM ⟨Ac1.S, cM ⟨Al6.S, cM ⟨Ai5.S, cM ⟨Ag8.S, nM⟩⟩⟩⟩⟩⟩⟩⟩⟩⟩⟩))
end Aj1
end Go.Proofs.YtjimdbbeilfkfaaGreat
