/- The functions, as the machine runs them. -/
import Derived.Test.YtahkpjebkelmfaaVm4
import Derived.Test.YtahkpjebkelmfaaProg
import Derived.KernelRfl
import Derived.WalkKit
import Derived.Lib.Walk
import Derived.Lib.AppendZeros
import Derived.Sort.WalkA
import Derived.Sort.WalkB2
import Derived.Sort.WalkB12
import Derived.Deep.LoopGhost
import Derived.Shelf.RegionOpenPlain
import Derived.Lib.SliceRun
namespace Go.Proofs.Ytahkpjebkelmfaa
open Go Go.Vm
set_option linter.unusedVariables false
set_option linter.unusedSimpArgs false
open Go.Proofs.Try
abbrev LI := List Int
abbrev LL := List LI
abbrev MX := Int × Int × Int × LI
abbrev LM := List MX
abbrev SF := LL × Int × LI × LM
abbrev OI := Option ((Int × Unit) × Unit)
abbrev OB := Option ((Bool × Unit) × Unit)
abbrev OL := Option ((LI × Unit) × Unit)
abbrev OQ := Option ((LL × Unit) × Unit)
abbrev OM := Option ((MX × Unit) × Unit)
abbrev OS := Option ((SF × Unit) × Unit)
abbrev tI : Ty := .int .i64
abbrev tL : Ty := .sl tI
abbrev tQ : Ty := .sl tL
abbrev cI (x : Int) : Cell := ⟨tI, .sh, x⟩
abbrev cL (x : LI) : Cell := ⟨tL, .sh, x⟩
abbrev dL (x : LI) : Cell := ⟨tL, .deep, x⟩
abbrev cQ (x : LL) : Cell := ⟨tQ, .sh, x⟩
abbrev dQ (x : LL) : Cell := ⟨tQ, .deep, x⟩
abbrev vI (x : Int) : TV := .val false [cI x]
abbrev vL (x : LI) : TV := .val false [cL x]
abbrev vQ (x : LL) : TV := .val false [cQ x]
def tabl : List (Nat × TInfo) := [
  (2, ⟨false, tI, 0, []⟩),
  (3, ⟨false, tI, 0, []⟩),
  (4, ⟨false, .bool, 0, []⟩),
  (22, ⟨false, tQ, 31, []⟩),
  (24, ⟨true, tQ, 0, [(0, 1, false)]⟩),
  (27, ⟨true, tQ, 0, [(0, 1, false)]⟩),
  (31, ⟨false, tL, 2, []⟩),
  (77, ⟨false, (.sl tQ), 22, []⟩),
  (83, ⟨false, tL, 3, []⟩),
  (86, ⟨false, (.int .u64), 0, []⟩)]
theorem tab_good : tabB Go.Proofs.Try.prog tabl = true := by kernel_rfl
theorem tab_open : b3v Go.Proofs.Try.prog tabl = true := by kernel_rfl
theorem mixed_ok : Go.Proofs.Try.prog.follows .mixedOrders = true := by kernel_rfl
set_option maxHeartbeats 2000000 in
set_option maxRecDepth 100000 in
theorem slices_Grow_LLint64_Lint64.grow0 (w : World) : Calls Go.Proofs.Try.prog 78 #[.slice none 0 0, .int .i64 ((0 : Nat) : Int)] w fun e w' => e = .returned (.slice none 0 0) ∧ w' = w := by
  have h2 : Go.RowKit.wrap64 (((0 : Nat) : Int) - ((0 : Nat) : Int)) = 0 := by unfold Go.RowKit.wrap64; omega
  go_enter Go.Proofs.Try.func78, Go.Proofs.Try.ntmps78
  go_wp2
  go_ret
  exact ⟨rfl, rfl⟩
set_option maxHeartbeats 4000000 in
set_option maxRecDepth 100000 in
theorem slices_Grow_LLint64_Lint64.grow1 (w : World) (n : Nat) (h0 : 0 < n) (hn : n ≤ 1099511627776) (i : TypeInfo) (z : Value) (hi : Go.Proofs.Try.prog.info? 31 = some i) (hz : i.zero = some z) (hs : 0 < i.size) (hb : i.bytes ≤ 256) :
    Calls Go.Proofs.Try.prog 78 #[.slice none 0 0, .int .i64 (n : Int)] w fun e w' => ∃ G, n ≤ G ∧ G ≤ 9223372036854775807 ∧ e = .returned (.slice (some ⟨w.heap.size, 0, none⟩) 0 G) ∧ w' = w.drew.alloc (.cells (Builtin.zeroCells z.cells n ++ Builtin.zeroCells z.cells (G - n)) 31) := by
  have h1 : ¬ ((n : Int) < 0) := by omega
  have h2 : Go.RowKit.wrap64 (((0 : Nat) : Int) - ((0 : Nat) : Int)) = 0 := by unfold Go.RowKit.wrap64; omega
  have h3 : Go.RowKit.wrap64 ((n : Int) - 0) = (n : Int) := by unfold Go.RowKit.wrap64; omega
  have h4 : (n : Int) > 0 := by omega
  have hm : n * i.bytes ≤ 1099511627776 * 256 := Nat.mul_le_mul hn hb
  have hrz : ∀ ty, (Builtin.append_ #[22, 3] ty #[.slice none 0 0, .int .i64 (n : Int)]).run Go.Proofs.Try.prog w =
      .ok (.slice (some ⟨w.heap.size, 0, none⟩) n (grownCap w n 0 31)) (w.drew.alloc (.cells (Builtin.zeroCells z.cells n ++ Builtin.zeroCells z.cells (grownCap w n 0 31 - n)) 31)) := fun ty =>
    Lib.run_append_nil_zeros (P := Go.Proofs.Try.prog) w 22 3 ty 31 i z .i64 .i64 (by kernel_rfl) (by kernel_rfl) hi hz n h0 hs (by omega) (by omega)
  have hGn : n ≤ grownCap w n 0 31 := grownCap_ge w _ _ _
  obtain ⟨G, hG⟩ : ∃ G, G = grownCap w n 0 31 := ⟨_, rfl⟩
  have hG63 : G ≤ 9223372036854775807 := by
    have := grownCap_le_maxLen w n 0 31 (by unfold maxLen; omega)
    rw [← hG] at this
    unfold maxLen at this
    omega
  rw [← hG] at hrz hGn
  clear hG
  refine Calls.mono (R := fun e w' => e = .returned (.slice (some ⟨w.heap.size, 0, none⟩) 0 G) ∧ w' = w.drew.alloc (.cells (Builtin.zeroCells z.cells n ++ Builtin.zeroCells z.cells (G - n)) 31)) ?_ fun e w' h => ⟨G, hGn, hG63, h.1, h.2⟩
  clear hi hz hs hb hm
  go_enter Go.Proofs.Try.func78, Go.Proofs.Try.ntmps78
  go_wp2_with (at_builtin; refine Lib.wpList_append_run _ rfl _ _ _ _ rfl _ _ rfl rfl _ _ (hrz _) ?_)
  all_goals (go_ret; exact ⟨rfl, rfl⟩)
theorem slices_Grow_LLint64_Lint64.growOK : b1O Go.Proofs.Try.prog (78, tL) := by
  have hT : a2U tabl 31 = some ⟨false, tL, 2, []⟩ := by kernel_rfl
  obtain ⟨inf, h1, h2, h3, h4, h5⟩ := (tab_ok tab_good).info 31 _ hT
  exact growOK_of ⟨Go.Proofs.Try.f78, Go.Proofs.Try.func78, by kernel_rfl, by kernel_rfl⟩ (a6w (tab_ok tab_good) hT) slices_Grow_LLint64_Lint64.grow0 fun w n a b => slices_Grow_LLint64_Lint64.grow1 w n a b inf _ h1 h5 (by rw [h2]; exact a3f _) h4
set_option maxHeartbeats 2000000 in
set_option maxRecDepth 100000 in
theorem slices_Grow_Lint64_int64.grow0 (w : World) : Calls Go.Proofs.Try.prog 87 #[.slice none 0 0, .int .i64 ((0 : Nat) : Int)] w fun e w' => e = .returned (.slice none 0 0) ∧ w' = w := by
  have h2 : Go.RowKit.wrap64 (((0 : Nat) : Int) - ((0 : Nat) : Int)) = 0 := by unfold Go.RowKit.wrap64; omega
  go_enter Go.Proofs.Try.func87, Go.Proofs.Try.ntmps87
  go_wp2
  go_ret
  exact ⟨rfl, rfl⟩
set_option maxHeartbeats 4000000 in
set_option maxRecDepth 100000 in
theorem slices_Grow_Lint64_int64.grow1 (w : World) (n : Nat) (h0 : 0 < n) (hn : n ≤ 1099511627776) (i : TypeInfo) (z : Value) (hi : Go.Proofs.Try.prog.info? 2 = some i) (hz : i.zero = some z) (hs : 0 < i.size) (hb : i.bytes ≤ 256) :
    Calls Go.Proofs.Try.prog 87 #[.slice none 0 0, .int .i64 (n : Int)] w fun e w' => ∃ G, n ≤ G ∧ G ≤ 9223372036854775807 ∧ e = .returned (.slice (some ⟨w.heap.size, 0, none⟩) 0 G) ∧ w' = w.drew.alloc (.cells (Builtin.zeroCells z.cells n ++ Builtin.zeroCells z.cells (G - n)) 2) := by
  have h1 : ¬ ((n : Int) < 0) := by omega
  have h2 : Go.RowKit.wrap64 (((0 : Nat) : Int) - ((0 : Nat) : Int)) = 0 := by unfold Go.RowKit.wrap64; omega
  have h3 : Go.RowKit.wrap64 ((n : Int) - 0) = (n : Int) := by unfold Go.RowKit.wrap64; omega
  have h4 : (n : Int) > 0 := by omega
  have hm : n * i.bytes ≤ 1099511627776 * 256 := Nat.mul_le_mul hn hb
  have hrz : ∀ ty, (Builtin.append_ #[31, 3] ty #[.slice none 0 0, .int .i64 (n : Int)]).run Go.Proofs.Try.prog w =
      .ok (.slice (some ⟨w.heap.size, 0, none⟩) n (grownCap w n 0 2)) (w.drew.alloc (.cells (Builtin.zeroCells z.cells n ++ Builtin.zeroCells z.cells (grownCap w n 0 2 - n)) 2)) := fun ty =>
    Lib.run_append_nil_zeros (P := Go.Proofs.Try.prog) w 31 3 ty 2 i z .i64 .i64 (by kernel_rfl) (by kernel_rfl) hi hz n h0 hs (by omega) (by omega)
  have hGn : n ≤ grownCap w n 0 2 := grownCap_ge w _ _ _
  obtain ⟨G, hG⟩ : ∃ G, G = grownCap w n 0 2 := ⟨_, rfl⟩
  have hG63 : G ≤ 9223372036854775807 := by
    have := grownCap_le_maxLen w n 0 2 (by unfold maxLen; omega)
    rw [← hG] at this
    unfold maxLen at this
    omega
  rw [← hG] at hrz hGn
  clear hG
  refine Calls.mono (R := fun e w' => e = .returned (.slice (some ⟨w.heap.size, 0, none⟩) 0 G) ∧ w' = w.drew.alloc (.cells (Builtin.zeroCells z.cells n ++ Builtin.zeroCells z.cells (G - n)) 2)) ?_ fun e w' h => ⟨G, hGn, hG63, h.1, h.2⟩
  clear hi hz hs hb hm
  go_enter Go.Proofs.Try.func87, Go.Proofs.Try.ntmps87
  go_wp2_with (at_builtin; refine Lib.wpList_append_run _ rfl _ _ _ _ rfl _ _ rfl rfl _ _ (hrz _) ?_)
  all_goals (go_ret; exact ⟨rfl, rfl⟩)
theorem slices_Grow_Lint64_int64.growOK : b1O Go.Proofs.Try.prog (87, tI) := by
  have hT : a2U tabl 2 = some ⟨false, tI, 0, []⟩ := by kernel_rfl
  obtain ⟨inf, h1, h2, h3, h4, h5⟩ := (tab_ok tab_good).info 2 _ hT
  exact growOK_of ⟨Go.Proofs.Try.f87, Go.Proofs.Try.func87, by kernel_rfl, by kernel_rfl⟩ (a6w (tab_ok tab_good) hT) slices_Grow_Lint64_int64.grow0 fun w n a b => slices_Grow_Lint64_int64.grow1 w n a b inf _ h1 h5 (by rw [h2]; exact a3f _) h4
abbrev pC : PS := .val true tQ
abbrev pQ : PS := .val false tQ
abbrev pL : PS := .val false tL
abbrev pI : PS := .val false tI
abbrev qC : PS := .rptr tQ
abbrev oI : OutK × Ty × Vm.Mode := (.val false, tI, .deep)
abbrev oB : OutK × Ty × Vm.Mode := (.val false, .bool, .deep)
abbrev oL : OutK × Ty × Vm.Mode := (.val false, tL, .deep)
abbrev oQ : OutK × Ty × Vm.Mode := (.val false, tQ, .deep)
abbrev oC : OutK × Ty × Vm.Mode := (.val true, tQ, .deep)
abbrev bd (f : Func) : Code := f.body.getD .skip
abbrev cx (l : List Vm.Callee) : Ctx := ⟨a2U tabl, l, [], [], [], []⟩
abbrev cf (c : Ctx) : Cfg := ⟨c, [], [], fun _ => ([], []), fun _ => []⟩
abbrev cl (c : Ctx) (f : Nat → List Nat × List Nat) : Cfg := ⟨c, [], [], f, fun _ => []⟩
theorem nM {α : Type} {p : α → Prop} : ∀ x ∈ ([] : List α), p x := List.forall_mem_nil _
theorem cM {α : Type} {p : α → Prop} {a : α} {l : List α} (h : p a ∧ ∀ x ∈ l, p x) : ∀ x ∈ a :: l, p x := List.forall_mem_cons.2 h
theorem cok {l : List Vm.Callee} (h : ∀ e ∈ l, a2u prog e) : CtxOK prog (cx l) := ⟨nM, mixed_ok, tab_ok tab_good, h, nM, nM⟩
abbrev dD : TV := .dead

namespace Ae9
noncomputable def sig : Sig := ⟨[pL, pI], [oI]⟩
noncomputable def cfg : Cfg := cf (cx [])
noncomputable def fin := finK cfg.c sig [.tmp 4]
noncomputable def F (d : LI × Int × Unit) : OI := anyK (a8n cfg fin (bd f38) (a5S sig.ps d 12))
variable (a_1 : LI) (left_2 : Int)
noncomputable def T : OI := if (decide ((IntKind.i64.wrap (left_2 - (a_1.length : Int))) < 0)) = true then some (((-1 : Int), ()), ()) else some ((IntKind.i64.wrap (left_2 - (a_1.length : Int)), ()), ())
theorem eq : F (a_1, left_2, ()) = T a_1 left_2 := eq_any fun k => by kernel_rfl
theorem S : a2u prog ⟨38, sig, F⟩ := sound_k (res := [.tmp 4]) func38 (cok nM)
end Ae9
namespace Ab9
noncomputable def sig : Sig := ⟨[pQ, pI], [oI]⟩
noncomputable def cfg : Cfg := cl (cx [⟨38, Ae9.sig, Ae9.F⟩]) fun id => match id with | 5 => ([0, 1, 5], []) | _ => ([], [])
noncomputable def fin := finK cfg.c sig [.tmp 4]
noncomputable def F (d : LL × Int × Unit) : OI := anyK (a8n cfg fin (bd f22) (a5S sig.ps d 27))
variable (k : Nat) (x3 : LL) (i4 i5 : Int)
noncomputable def l5 : OI := Vm.runT cfg fin k [.inLoop (sub [1, 1, 1, 0, 1, 0, 0] (bd f22)), .inBlock 0, .code (sub [1, 1, 1, 1] (bd f22))] ⟨[vQ x3, vI i4, dD, dD, dD, vI i5] ++ a8v 21, []⟩
theorem l5_eq : l5 (k + 1) x3 i4 i5 = if (decide (i5 < (x3.length : Int))) = true then if 0 ≤ i5 ∧ i5 < (x3.length : Int) then (Ae9.F (x3.getD i5.toNat ([] : LI), i4, ())).bind fun r6 => if (decide (r6.1.1 < 0)) = true then some (((-1 : Int), ()), ()) else l5 k x3 r6.1.1 (IntKind.i64.wrap (i5 + 1)) else none else some ((i4, ()), ()) := by kernel_rfl
variable (a_1 : LL) (left_2 : Int)
noncomputable def T : OI := if (decide ((IntKind.i64.wrap (left_2 - (a_1.length : Int))) < 0)) = true then some (((-1 : Int), ()), ()) else l5 k a_1 (IntKind.i64.wrap (left_2 - (a_1.length : Int))) (0 : Int)
theorem of {r} (h : Ev (fun k => T k a_1 left_2) r) : F (a_1, left_2, ()) = some r := Ev.run (fun k => by kernel_rfl) h
theorem S : a2u prog ⟨22, sig, F⟩ := sound_k (res := [.tmp 4]) func22 (cok (cM ⟨Ae9.S, nM⟩))
end Ab9
namespace Ad1
noncomputable def sig : Sig := ⟨[pC, pI], [oI]⟩
noncomputable def cfg : Cfg := cf (cx [⟨22, Ab9.sig, Ab9.F⟩])
noncomputable def fin := finK cfg.c sig [.tmp 4]
noncomputable def F (d : LL × Int × Unit) : OI := anyK (a8n cfg fin (bd f7) (a5S sig.ps d 12))
variable (a_1 : LL) (left_2 : Int)
noncomputable def T : OI := (Ab9.F (a_1, left_2, ())).bind fun r3 => if (decide (r3.1.1 < 0)) = true then some (((-1 : Int), ()), ()) else some ((r3.1.1, ()), ())
theorem eq : F (a_1, left_2, ()) = T a_1 left_2 := eq_any fun k => by kernel_rfl
theorem S : a2u prog ⟨7, sig, F⟩ := sound_k (res := [.tmp 4]) func7 (cok (cM ⟨Ab9.S, nM⟩))
end Ad1
namespace Ac4
noncomputable def sig : Sig := ⟨[pL], [oL]⟩
noncomputable def cfg : Cfg := cl (cx []) fun id => match id with | 3 => ([0, 3, 4], [12]) | _ => ([], [])
noncomputable def fin := finK cfg.c sig [.tmp 2]
noncomputable def F (d : LI × Unit) : OL := anyK (a8n cfg fin (bd f13) (a5S sig.ps d 22))
variable (k : Nat) (x2 : LI) (i3 : Int) (x4 : LI)
noncomputable def l3 : OL := Vm.runT cfg fin k [.inLoop (sub [1, 1, 0, 1, 0, 0] (bd f13)), .inBlock 0, .code (sub [1, 1, 1] (bd f13))] ⟨[vL x2, dD, dD, .view 12 (.root 0) 1 false, vI i3] ++ a8v 17, [(12, ⟨false, [dL x4]⟩)]⟩
theorem l3_eq : l3 (k + 1) x2 i3 x4 = if (decide (i3 < (x2.length : Int))) = true then if 0 ≤ i3 ∧ i3 < (x2.length : Int) then if 0 ≤ i3 ∧ i3 < (x4.length : Int) then l3 k x2 (IntKind.i64.wrap (i3 + 1)) (x4.set i3.toNat (x2.getD i3.toNat 0 : Int)) else none else none else some ((x4, ()), ()) := by kernel_rfl
variable (a_1 : LI)
noncomputable def T : OL := if 0 ≤ (a_1.length : Int) ∧ (a_1.length : Int) ≤ (bigN : Int) then l3 k a_1 (0 : Int) (List.replicate (a_1.length : Int).toNat (0 : Int)) else none
theorem of {r} (h : Ev (fun k => T k a_1) r) : F (a_1, ()) = some r := Ev.run (fun k => by kernel_rfl) h
theorem S : a2u prog ⟨13, sig, F⟩ := sound_k (res := [.tmp 2]) func13 (cok nM)
end Ac4
namespace Ac5
noncomputable def sig : Sig := ⟨[pQ], [oQ]⟩
noncomputable def cfg : Cfg := cl (cx [⟨13, Ac4.sig, Ac4.F⟩]) fun id => match id with | 3 => ([0, 3, 4], [12]) | _ => ([], [])
noncomputable def fin := finK cfg.c sig [.tmp 2]
noncomputable def F (d : LL × Unit) : OQ := anyK (a8n cfg fin (bd f25) (a5S sig.ps d 23))
variable (k : Nat) (x2 : LL) (i3 : Int) (x4 : LL)
noncomputable def l3 : OQ := Vm.runT cfg fin k [.inLoop (sub [1, 1, 0, 1, 0, 0] (bd f25)), .inBlock 0, .code (sub [1, 1, 1] (bd f25))] ⟨[vQ x2, dD, dD, .view 12 (.root 0) 1 false, vI i3] ++ a8v 18, [(12, ⟨false, [dQ x4]⟩)]⟩
theorem l3_eq : l3 (k + 1) x2 i3 x4 = if (decide (i3 < (x2.length : Int))) = true then if 0 ≤ i3 ∧ i3 < (x2.length : Int) then (Ac4.F (x2.getD i3.toNat ([] : LI), ())).bind fun r5 => if 0 ≤ i3 ∧ i3 < (x4.length : Int) then l3 k x2 (IntKind.i64.wrap (i3 + 1)) (x4.set i3.toNat r5.1.1) else none else none else some ((x4, ()), ()) := by kernel_rfl
variable (a_1 : LL)
noncomputable def T : OQ := if 0 ≤ (a_1.length : Int) ∧ (a_1.length : Int) ≤ (bigN : Int) then l3 k a_1 (0 : Int) (List.replicate (a_1.length : Int).toNat ([] : LI)) else none
theorem of {r} (h : Ev (fun k => T k a_1) r) : F (a_1, ()) = some r := Ev.run (fun k => by kernel_rfl) h
theorem S : a2u prog ⟨25, sig, F⟩ := sound_k (res := [.tmp 2]) func25 (cok (cM ⟨Ac4.S, nM⟩))
end Ac5
namespace Aa4
noncomputable def sig : Sig := ⟨[pC], [oC]⟩
noncomputable def cfg : Cfg := cf (cx [⟨25, Ac5.sig, Ac5.F⟩])
noncomputable def fin := finK cfg.c sig [.cell 2 27]
noncomputable def F (d : LL × Unit) : OQ := anyK (a8n cfg fin (bd f9) (a5S sig.ps d 9))
variable (a_1 : LL)
noncomputable def T : OQ := (Ac5.F (a_1, ())).bind fun r2 => some ((r2.1.1, ()), ())
theorem eq : F (a_1, ()) = T a_1 := eq_any fun k => by kernel_rfl
theorem S : a2u prog ⟨9, sig, F⟩ := sound_k (res := [.cell 2 27]) func9 (cok (cM ⟨Ac5.S, nM⟩))
noncomputable def sigF : Sig := ⟨[.val true tQ], [(.fr true, tQ, .deep)]⟩
theorem SF : a2u prog ⟨9, sigF, F⟩ := sound_fr S
end Aa4
namespace Ab7
noncomputable def sig : Sig := ⟨[pL, pL], [oB]⟩
noncomputable def cfg : Cfg := cl (cx []) fun id => match id with | 4 => ([0, 1, 5], []) | _ => ([], [])
noncomputable def fin := finK cfg.c sig [.tmp 4]
noncomputable def F (d : LI × LI × Unit) : OB := anyK (a8n cfg fin (bd f15) (a5S sig.ps d 26))
variable (k : Nat) (x3 x4 : LI) (i5 : Int)
noncomputable def l4 : OB := Vm.runT cfg fin k [.inLoop (sub [1, 1, 0, 1, 0, 0] (bd f15)), .inBlock 0, .code (sub [1, 1, 1] (bd f15))] ⟨[vL x3, vL x4, dD, dD, dD, vI i5] ++ a8v 20, []⟩
theorem l4_eq : l4 (k + 1) x3 x4 i5 = if (decide (i5 < (x3.length : Int))) = true then if 0 ≤ i5 ∧ i5 < (x3.length : Int) then if 0 ≤ i5 ∧ i5 < (x4.length : Int) then if ((x3.getD i5.toNat 0 : Int) != (x4.getD i5.toNat 0 : Int)) = true then some ((false, ()), ()) else l4 k x3 x4 (IntKind.i64.wrap (i5 + 1)) else none else none else some ((true, ()), ()) := by kernel_rfl
variable (a_1 b_2 : LI)
noncomputable def T : OB := if ((a_1.length : Int) != (b_2.length : Int)) = true then some ((false, ()), ()) else l4 k a_1 b_2 (0 : Int)
theorem of {r} (h : Ev (fun k => T k a_1 b_2) r) : F (a_1, b_2, ()) = some r := Ev.run (fun k => by kernel_rfl) h
theorem S : a2u prog ⟨15, sig, F⟩ := sound_k (res := [.tmp 4]) func15 (cok nM)
end Ab7
namespace Ab8
noncomputable def sig : Sig := ⟨[pQ, pQ], [oB]⟩
noncomputable def cfg : Cfg := cl (cx [⟨15, Ab7.sig, Ab7.F⟩]) fun id => match id with | 4 => ([0, 1, 5], []) | _ => ([], [])
noncomputable def fin := finK cfg.c sig [.tmp 4]
noncomputable def F (d : LL × LL × Unit) : OB := anyK (a8n cfg fin (bd f29) (a5S sig.ps d 27))
variable (k : Nat) (x3 x4 : LL) (i5 : Int)
noncomputable def l4 : OB := Vm.runT cfg fin k [.inLoop (sub [1, 1, 0, 1, 0, 0] (bd f29)), .inBlock 0, .code (sub [1, 1, 1] (bd f29))] ⟨[vQ x3, vQ x4, dD, dD, dD, vI i5] ++ a8v 21, []⟩
theorem l4_eq : l4 (k + 1) x3 x4 i5 = if (decide (i5 < (x3.length : Int))) = true then if 0 ≤ i5 ∧ i5 < (x3.length : Int) then if 0 ≤ i5 ∧ i5 < (x4.length : Int) then (Ab7.F (x3.getD i5.toNat ([] : LI), x4.getD i5.toNat ([] : LI), ())).bind fun r6 => if (!r6.1.1) = true then some ((false, ()), ()) else l4 k x3 x4 (IntKind.i64.wrap (i5 + 1)) else none else none else some ((true, ()), ()) := by kernel_rfl
variable (a_1 b_2 : LL)
noncomputable def T : OB := if ((a_1.length : Int) != (b_2.length : Int)) = true then some ((false, ()), ()) else l4 k a_1 b_2 (0 : Int)
theorem of {r} (h : Ev (fun k => T k a_1 b_2) r) : F (a_1, b_2, ()) = some r := Ev.run (fun k => by kernel_rfl) h
theorem S : a2u prog ⟨29, sig, F⟩ := sound_k (res := [.tmp 4]) func29 (cok (cM ⟨Ab7.S, nM⟩))
end Ab8
namespace Ab3
noncomputable def sig : Sig := ⟨[pC, pC], [oB]⟩
noncomputable def cfg : Cfg := cf (cx [⟨29, Ab8.sig, Ab8.F⟩])
noncomputable def fin := finK cfg.c sig [.tmp 4]
noncomputable def F (d : LL × LL × Unit) : OB := anyK (a8n cfg fin (bd f11) (a5S sig.ps d 11))
variable (a_1 b_2 : LL)
noncomputable def T : OB := (Ab8.F (a_1, b_2, ())).bind fun r3 => if (!r3.1.1) = true then some ((false, ()), ()) else some ((true, ()), ())
theorem eq : F (a_1, b_2, ()) = T a_1 b_2 := eq_any fun k => by kernel_rfl
theorem S : a2u prog ⟨11, sig, F⟩ := sound_k (res := [.tmp 4]) func11 (cok (cM ⟨Ab8.S, nM⟩))
end Ab3
namespace Ad0
noncomputable def sig : Sig := ⟨[.wr false tL .deep, pI], [oI]⟩
noncomputable def cfg : Cfg := ⟨cx [], [0], [], fun id => match id with | 2 => ([0, 1, 5], [0]) | _ => ([], []), fun _ => []⟩
noncomputable def fin := finK cfg.c sig [.tmp 4]
noncomputable def F (d : LI × Int × Unit) : Option ((Int × Unit) × (LI × Unit)) := anyK (a8n cfg fin (bd f57) (a5S sig.ps d 19))
variable (k : Nat) (i3 i4 : Int) (x5 : LI)
noncomputable def l2 : Option ((Int × Unit) × (LI × Unit)) := Vm.runT cfg fin k [.inLoop (sub [1, 0, 1, 0, 0] (bd f57)), .inBlock 0, .code (sub [1, 1] (bd f57))] ⟨[.view 0 (.root 0) 1 false, vI i3, dD, dD, dD, vI i4] ++ a8v 13, [(0, ⟨false, [dL x5]⟩)]⟩
theorem l2_eq : l2 (k + 1) i3 i4 x5 = if (decide (i4 < (x5.length : Int))) = true then if 0 ≤ i4 ∧ i4 < (x5.length : Int) then l2 k (IntKind.i64.wrap (i3 + 1)) (IntKind.i64.wrap (i4 + 1)) (x5.set i4.toNat i3) else none else some ((i3, ()), (x5, ())) := by kernel_rfl
variable (a_1 : LI) (k_2 : Int)
noncomputable def T : Option ((Int × Unit) × (LI × Unit)) := l2 k k_2 (0 : Int) a_1
theorem of {r} (h : Ev (fun k => T k a_1 k_2) r) : F (a_1, k_2, ()) = some r := Ev.run (fun k => by kernel_rfl) h
theorem S : a2u prog ⟨57, sig, F⟩ := sound_k (res := [.tmp 4]) func57 (cok nM)
end Ad0
namespace Ac3
noncomputable def sig : Sig := ⟨[.wr false tQ .deep, pI], [oI]⟩
noncomputable def cfg : Cfg := ⟨cx [⟨57, Ad0.sig, Ad0.F⟩], [0], [], fun id => match id with | 2 => ([0, 1, 5], [0]) | _ => ([], []), fun _ => []⟩
noncomputable def fin := finK cfg.c sig [.tmp 4]
noncomputable def F (d : LL × Int × Unit) : Option ((Int × Unit) × (LL × Unit)) := anyK (a8n cfg fin (bd f34) (a5S sig.ps d 19))
variable (k : Nat) (i3 i4 : Int) (x5 : LL)
noncomputable def l2 : Option ((Int × Unit) × (LL × Unit)) := Vm.runT cfg fin k [.inLoop (sub [1, 0, 1, 0, 0] (bd f34)), .inBlock 0, .code (sub [1, 1] (bd f34))] ⟨[.view 0 (.root 0) 1 false, vI i3, dD, dD, dD, vI i4] ++ a8v 13, [(0, ⟨false, [dQ x5]⟩)]⟩
theorem l2_eq : l2 (k + 1) i3 i4 x5 = if (decide (i4 < (x5.length : Int))) = true then if 0 ≤ i4 ∧ i4 < (x5.length : Int) then (Ad0.F (x5.getD i4.toNat ([] : LI), i3, ())).bind fun r6 => l2 k r6.1.1 (IntKind.i64.wrap (i4 + 1)) (x5.set i4.toNat r6.2.1) else none else some ((i3, ()), (x5, ())) := by kernel_rfl
variable (a_1 : LL) (k_2 : Int)
noncomputable def T : Option ((Int × Unit) × (LL × Unit)) := l2 k k_2 (0 : Int) a_1
theorem of {r} (h : Ev (fun k => T k a_1 k_2) r) : F (a_1, k_2, ()) = some r := Ev.run (fun k => by kernel_rfl) h
theorem S : a2u prog ⟨34, sig, F⟩ := sound_k (res := [.tmp 4]) func34 (cok (cM ⟨Ad0.S, nM⟩))
end Ac3
namespace Aa6
noncomputable def sig : Sig := ⟨[.wr true tQ .deep, pI], [oI]⟩
noncomputable def cfg : Cfg := ⟨cx [⟨34, Ac3.sig, Ac3.F⟩], [0], [], fun _ => ([], []), fun _ => []⟩
noncomputable def fin := finK cfg.c sig [.tmp 4]
noncomputable def F (d : LL × Int × Unit) : Option ((Int × Unit) × (LL × Unit)) := anyK (a8n cfg fin (bd f18) (a5S sig.ps d 10))
variable (a_1 : LL) (k_2 : Int)
noncomputable def T : Option ((Int × Unit) × (LL × Unit)) := (Ac3.F (a_1, k_2, ())).bind fun r3 => some ((r3.1.1, ()), (r3.2.1, ()))
theorem eq : F (a_1, k_2, ()) = T a_1 k_2 := eq_any fun k => by kernel_rfl
theorem S : a2u prog ⟨18, sig, F⟩ := sound_k (res := [.tmp 4]) func18 (cok (cM ⟨Ac3.S, nM⟩))
end Aa6
namespace Ac8
noncomputable def sig : Sig := ⟨[pL, pI], [oI]⟩
noncomputable def cfg : Cfg := cl (cx []) fun id => match id with | 2 => ([0, 1, 5], []) | _ => ([], [])
noncomputable def fin := finK cfg.c sig [.tmp 4]
noncomputable def F (d : LI × Int × Unit) : OI := anyK (a8n cfg fin (bd f58) (a5S sig.ps d 21))
variable (k : Nat) (x3 : LI) (i4 i5 : Int)
noncomputable def l2 : OI := Vm.runT cfg fin k [.inLoop (sub [1, 0, 1, 0, 0] (bd f58)), .inBlock 0, .code (sub [1, 1] (bd f58))] ⟨[vL x3, vI i4, dD, dD, dD, vI i5] ++ a8v 15, []⟩
theorem l2_eq : l2 (k + 1) x3 i4 i5 = if (decide (i5 < (x3.length : Int))) = true then if 0 ≤ i5 ∧ i5 < (x3.length : Int) then if ((x3.getD i5.toNat 0 : Int) != i4) = true then some (((-1 : Int), ()), ()) else l2 k x3 (IntKind.i64.wrap (i4 + 1)) (IntKind.i64.wrap (i5 + 1)) else none else some ((i4, ()), ()) := by kernel_rfl
variable (a_1 : LI) (k_2 : Int)
noncomputable def T : OI := l2 k a_1 k_2 (0 : Int)
theorem of {r} (h : Ev (fun k => T k a_1 k_2) r) : F (a_1, k_2, ()) = some r := Ev.run (fun k => by kernel_rfl) h
theorem S : a2u prog ⟨58, sig, F⟩ := sound_k (res := [.tmp 4]) func58 (cok nM)
end Ac8
namespace Ac9
noncomputable def sig : Sig := ⟨[pQ, pI], [oI]⟩
noncomputable def cfg : Cfg := cl (cx [⟨58, Ac8.sig, Ac8.F⟩]) fun id => match id with | 2 => ([0, 1, 5], []) | _ => ([], [])
noncomputable def fin := finK cfg.c sig [.tmp 4]
noncomputable def F (d : LL × Int × Unit) : OI := anyK (a8n cfg fin (bd f35) (a5S sig.ps d 21))
variable (k : Nat) (x3 : LL) (i4 i5 : Int)
noncomputable def l2 : OI := Vm.runT cfg fin k [.inLoop (sub [1, 0, 1, 0, 0] (bd f35)), .inBlock 0, .code (sub [1, 1] (bd f35))] ⟨[vQ x3, vI i4, dD, dD, dD, vI i5] ++ a8v 15, []⟩
theorem l2_eq : l2 (k + 1) x3 i4 i5 = if (decide (i5 < (x3.length : Int))) = true then if 0 ≤ i5 ∧ i5 < (x3.length : Int) then (Ac8.F (x3.getD i5.toNat ([] : LI), i4, ())).bind fun r6 => if (decide (r6.1.1 < 0)) = true then some (((-1 : Int), ()), ()) else l2 k x3 r6.1.1 (IntKind.i64.wrap (i5 + 1)) else none else some ((i4, ()), ()) := by kernel_rfl
variable (a_1 : LL) (k_2 : Int)
noncomputable def T : OI := l2 k a_1 k_2 (0 : Int)
theorem of {r} (h : Ev (fun k => T k a_1 k_2) r) : F (a_1, k_2, ()) = some r := Ev.run (fun k => by kernel_rfl) h
theorem S : a2u prog ⟨35, sig, F⟩ := sound_k (res := [.tmp 4]) func35 (cok (cM ⟨Ac8.S, nM⟩))
end Ac9
namespace Ae8
noncomputable def sig : Sig := ⟨[pC, pI], [oI]⟩
noncomputable def cfg : Cfg := cf (cx [⟨35, Ac9.sig, Ac9.F⟩])
noncomputable def fin := finK cfg.c sig [.tmp 4]
noncomputable def F (d : LL × Int × Unit) : OI := anyK (a8n cfg fin (bd f19) (a5S sig.ps d 12))
variable (a_1 : LL) (k_2 : Int)
noncomputable def T : OI := (Ac9.F (a_1, k_2, ())).bind fun r3 => if (decide (r3.1.1 < 0)) = true then some (((-1 : Int), ()), ()) else some ((r3.1.1, ()), ())
theorem eq : F (a_1, k_2, ()) = T a_1 k_2 := eq_any fun k => by kernel_rfl
theorem S : a2u prog ⟨19, sig, F⟩ := sound_k (res := [.tmp 4]) func19 (cok (cM ⟨Ac9.S, nM⟩))
end Ae8
namespace Ac0
noncomputable def sig : Sig := ⟨[pI, pI, pI], [oB]⟩
noncomputable def cfg : Cfg := cf (cx [])
noncomputable def fin := finK cfg.c sig [.tmp 6]
noncomputable def F (d : Int × Int × Int × Unit) : OB := anyK (a8n cfg fin (bd f60) (a5S sig.ps d 15))
variable (n_1 low_2 high_3 : Int)
noncomputable def T : OB := if (decide (n_1 ≥ low_2)) = true then some ((decide (n_1 ≤ high_3), ()), ()) else some ((false, ()), ())
theorem eq : F (n_1, low_2, high_3, ()) = T n_1 low_2 high_3 := eq_any fun k => by kernel_rfl
theorem S : a2u prog ⟨60, sig, F⟩ := sound_k (res := [.tmp 6]) func60 (cok nM)
end Ac0
namespace Ad4
noncomputable def sig : Sig := ⟨[pL, pI, pI], [oB]⟩
noncomputable def cfg : Cfg := cl (cx [⟨60, Ac0.sig, Ac0.F⟩]) fun id => match id with | 2 => ([0, 1, 2, 7], []) | _ => ([], [])
noncomputable def fin := finK cfg.c sig [.tmp 6]
noncomputable def F (d : LI × Int × Int × Unit) : OB := anyK (a8n cfg fin (bd f61) (a5S sig.ps d 38))
variable (k : Nat) (x4 : LI) (i5 i6 i7 : Int)
noncomputable def l2 : OB := Vm.runT cfg fin k [.inLoop (sub [1, 0, 1, 0, 0] (bd f61)), .inBlock 0, .code (sub [1, 1] (bd f61))] ⟨[vL x4, vI i5, vI i6, dD, dD, dD, dD, vI i7] ++ a8v 30, []⟩
theorem l2_eq : l2 (k + 1) x4 i5 i6 i7 = if (decide (i7 < (x4.length : Int))) = true then if 0 ≤ i7 ∧ i7 < (x4.length : Int) then (Ac0.F ((x4.getD i7.toNat 0 : Int), i5, i6, ())).bind fun r8 => if (!r8.1.1) = true then some ((false, ()), ()) else if (decide (i7 > 0)) = true then if 0 ≤ (IntKind.i64.wrap (i7 - 1)) ∧ (IntKind.i64.wrap (i7 - 1)) < (x4.length : Int) then if 0 ≤ i7 ∧ i7 < (x4.length : Int) then if (decide ((x4.getD (IntKind.i64.wrap (i7 - 1)).toNat 0) ≥ (x4.getD i7.toNat 0 : Int))) = true then some ((false, ()), ()) else l2 k x4 i5 i6 (IntKind.i64.wrap (i7 + 1)) else none else none else l2 k x4 i5 i6 (IntKind.i64.wrap (i7 + 1)) else none else some ((true, ()), ()) := by kernel_rfl
variable (list_1 : LI) (low_2 high_3 : Int)
noncomputable def T : OB := l2 k list_1 low_2 high_3 (0 : Int)
theorem of {r} (h : Ev (fun k => T k list_1 low_2 high_3) r) : F (list_1, low_2, high_3, ()) = some r := Ev.run (fun k => by kernel_rfl) h
theorem S : a2u prog ⟨61, sig, F⟩ := sound_k (res := [.tmp 6]) func61 (cok (cM ⟨Ac0.S, nM⟩))
end Ad4
namespace Af3
noncomputable def sig : Sig := ⟨[pL], [oB]⟩
noncomputable def cfg : Cfg := cf (cx [⟨60, Ac0.sig, Ac0.F⟩, ⟨61, Ad4.sig, Ad4.F⟩])
noncomputable def fin := finK cfg.c sig [.tmp 2]
noncomputable def F (d : LI × Unit) : OB := anyK (a8n cfg fin (bd f39) (a5S sig.ps d 10))
variable (s_1 : LI)
noncomputable def T : OB := (Ac0.F ((s_1.length : Int), (1 : Int), (4 : Int), ())).bind fun r2 => if r2.1.1 = true then (Ad4.F (s_1, (0 : Int), (9 : Int), ())).bind fun r3 => some ((r3.1.1, ()), ()) else some ((false, ()), ())
theorem eq : F (s_1, ()) = T s_1 := eq_any fun k => by kernel_rfl
theorem S : a2u prog ⟨39, sig, F⟩ := sound_k (res := [.tmp 2]) func39 (cok (cM ⟨Ac0.S, cM ⟨Ad4.S, nM⟩⟩))
end Af3
namespace Aa5
noncomputable def sig : Sig := ⟨[pL, pL], [oB]⟩
noncomputable def cfg : Cfg := cl (cx []) fun id => match id with | 4 => ([0, 1, 5], []) | _ => ([], [])
noncomputable def fin := finK cfg.c sig [.tmp 4]
noncomputable def F (d : LI × LI × Unit) : OB := anyK (a8n cfg fin (bd f40) (a5S sig.ps d 40))
variable (k : Nat) (x3 x4 : LI) (i5 : Int)
noncomputable def l4 : OB := Vm.runT cfg fin k [.inLoop (sub [1, 1, 0, 1, 0, 0] (bd f40)), .inBlock 0, .code (sub [1, 1, 1] (bd f40))] ⟨[vL x3, vL x4, dD, dD, dD, vI i5] ++ a8v 34, []⟩
theorem l4_eq : l4 (k + 1) x3 x4 i5 = if (decide (i5 < (x3.length : Int))) = true then if 0 ≤ i5 ∧ i5 < (x3.length : Int) then if 0 ≤ i5 ∧ i5 < (x4.length : Int) then if ((x3.getD i5.toNat 0 : Int) != (x4.getD i5.toNat 0 : Int)) = true then if 0 ≤ i5 ∧ i5 < (x3.length : Int) then if 0 ≤ i5 ∧ i5 < (x4.length : Int) then some ((decide ((x3.getD i5.toNat 0 : Int) < (x4.getD i5.toNat 0 : Int)), ()), ()) else none else none else l4 k x3 x4 (IntKind.i64.wrap (i5 + 1)) else none else none else some ((false, ()), ()) := by kernel_rfl
variable (a_1 b_2 : LI)
noncomputable def T : OB := if ((a_1.length : Int) != (b_2.length : Int)) = true then some ((decide ((a_1.length : Int) < (b_2.length : Int)), ()), ()) else l4 k a_1 b_2 (0 : Int)
theorem of {r} (h : Ev (fun k => T k a_1 b_2) r) : F (a_1, b_2, ()) = some r := Ev.run (fun k => by kernel_rfl) h
theorem S : a2u prog ⟨40, sig, F⟩ := sound_k (res := [.tmp 4]) func40 (cok nM)
end Aa5
namespace Ac1
noncomputable def sig : Sig := ⟨[pL, pL], [oB]⟩
noncomputable def cfg : Cfg := cl (cx []) fun id => match id with | 4 => ([0, 1, 5], []) | _ => ([], [])
noncomputable def fin := finK cfg.c sig [.tmp 4]
noncomputable def F (d : LI × LI × Unit) : OB := anyK (a8n cfg fin (bd f62) (a5S sig.ps d 26))
variable (k : Nat) (x3 x4 : LI) (i5 : Int)
noncomputable def l4 : OB := Vm.runT cfg fin k [.inLoop (sub [1, 1, 0, 1, 0, 0] (bd f62)), .inBlock 0, .code (sub [1, 1, 1] (bd f62))] ⟨[vL x3, vL x4, dD, dD, dD, vI i5] ++ a8v 20, []⟩
theorem l4_eq : l4 (k + 1) x3 x4 i5 = if (decide (i5 < (x3.length : Int))) = true then if 0 ≤ i5 ∧ i5 < (x3.length : Int) then if 0 ≤ i5 ∧ i5 < (x4.length : Int) then if ((x3.getD i5.toNat 0 : Int) != (x4.getD i5.toNat 0 : Int)) = true then some ((false, ()), ()) else l4 k x3 x4 (IntKind.i64.wrap (i5 + 1)) else none else none else some ((true, ()), ()) := by kernel_rfl
variable (a_1 b_2 : LI)
noncomputable def T : OB := if ((a_1.length : Int) != (b_2.length : Int)) = true then some ((false, ()), ()) else l4 k a_1 b_2 (0 : Int)
theorem of {r} (h : Ev (fun k => T k a_1 b_2) r) : F (a_1, b_2, ()) = some r := Ev.run (fun k => by kernel_rfl) h
theorem S : a2u prog ⟨62, sig, F⟩ := sound_k (res := [.tmp 4]) func62 (cok nM)
end Ac1
namespace Aa8
noncomputable def sig : Sig := ⟨[qC, pL], [oI]⟩
noncomputable def cfg : Cfg := cl (cx [⟨62, Ac1.sig, Ac1.F⟩]) fun id => match id with | 2 => ([0, 1, 5], []) | _ => ([], [])
noncomputable def fin := finK cfg.c sig [.tmp 4]
noncomputable def F (d : LL × LI × Unit) : OI := anyK (a8n cfg fin (bd f41) (a5S sig.ps d 25))
variable (k : Nat) (x3 : LL) (x4 : LI) (i5 : Int)
noncomputable def l2 : OI := Vm.runT cfg fin k [.inLoop (sub [1, 0, 1, 0, 0] (bd f41)), .inBlock 0, .code (sub [1, 1] (bd f41))] ⟨[.rptr false [cQ x3], vL x4, dD, dD, dD, vI i5] ++ a8v 19, []⟩
theorem l2_eq : l2 (k + 1) x3 x4 i5 = if (decide (i5 < (x3.length : Int))) = true then if 0 ≤ i5 ∧ i5 < (x3.length : Int) then (Ac1.F (x3.getD i5.toNat ([] : LI), x4, ())).bind fun r6 => if r6.1.1 = true then some ((i5, ()), ()) else l2 k x3 x4 (IntKind.i64.wrap (i5 + 1)) else none else some (((-1 : Int), ()), ()) := by kernel_rfl
variable (c_1 : LL) (s_2 : LI)
noncomputable def T : OI := l2 k c_1 s_2 (0 : Int)
theorem of {r} (h : Ev (fun k => T k c_1 s_2) r) : F (c_1, s_2, ()) = some r := Ev.run (fun k => by kernel_rfl) h
theorem S : a2u prog ⟨41, sig, F⟩ := sound_k (res := [.tmp 4]) func41 (cok (cM ⟨Ac1.S, nM⟩))
end Aa8
namespace Aa3
noncomputable def sig : Sig := ⟨[pL], [oL]⟩
noncomputable def cfg : Cfg := cf (cx [])
noncomputable def fin := finK cfg.c sig [.tmp 2]
noncomputable def F (d : LI × Unit) : OL := anyK (a8n cfg fin (bd f36) (a5S sig.ps d 6))
variable (list_1 : LI)
noncomputable def T : OL := if ([] : LI).length + list_1.length ≤ bigA then some ((([] : LI) ++ list_1, ()), ()) else none
theorem eq : F (list_1, ()) = T list_1 := eq_any fun k => by kernel_rfl
theorem S : a2u prog ⟨36, sig, F⟩ := sound_k (res := [.tmp 2]) func36 (cok nM)
noncomputable def sigF : Sig := ⟨[.val false tL], [(.fr false, tL, .deep)]⟩
theorem SF : a2u prog ⟨36, sigF, F⟩ := sound_fr S
end Aa3
namespace Ab5
noncomputable def sig : Sig := ⟨[pL, pI], [oL]⟩
noncomputable def cfg : Cfg := cf (cx [⟨36, Aa3.sig, Aa3.F⟩])
noncomputable def fin := finK cfg.c sig [.tmp 4]
noncomputable def F (d : LI × Int × Unit) : OL := anyK (a8n cfg fin (bd f42) (a5S sig.ps d 16))
variable (s_1 : LI) (k_2 : Int)
noncomputable def T : OL := if 0 ≤ (0 : Int) ∧ (0 : Int) ≤ k_2 ∧ k_2 ≤ (s_1.length : Int) then (Aa3.F (cutL s_1 (0 : Int) k_2, ())).bind fun r3 => if 0 ≤ (IntKind.i64.wrap (k_2 + (1 : Int))) ∧ (IntKind.i64.wrap (k_2 + (1 : Int))) ≤ (s_1.length : Int) ∧ (s_1.length : Int) ≤ (s_1.length : Int) then if r3.1.1.length + (cutL s_1 (IntKind.i64.wrap (k_2 + (1 : Int))) (s_1.length : Int)).length ≤ bigA then some ((r3.1.1 ++ (cutL s_1 (IntKind.i64.wrap (k_2 + (1 : Int))) (s_1.length : Int)), ()), ()) else none else none else none
theorem eq : F (s_1, k_2, ()) = T s_1 k_2 := eq_any fun k => by kernel_rfl
theorem S : a2u prog ⟨42, sig, F⟩ := sound_k (res := [.tmp 4]) func42 (cok (cM ⟨Aa3.S, nM⟩))
end Ab5
namespace Aa1
noncomputable def sig : Sig := ⟨[qC], [oB]⟩
noncomputable def cfg : Cfg := cl (cx [⟨39, Af3.sig, Af3.F⟩, ⟨40, Aa5.sig, Aa5.F⟩, ⟨41, Aa8.sig, Aa8.F⟩, ⟨42, Ab5.sig, Ab5.F⟩]) fun id => match id with | 4 => ([0, 3], []) | 10 => ([0, 3, 4, 5], []) | _ => ([], [])
noncomputable def fin := finK cfg.c sig [.tmp 2]
noncomputable def F (d : LL × Unit) : OB := anyK (a8n cfg fin (bd f23) (a5S sig.ps d 65))
variable (k : Nat) (x2 : LL) (i3 : Int)
noncomputable def l4 : OB := Vm.runT cfg fin k [.inLoop (sub [1, 1, 0, 1, 0, 0] (bd f23)), .inBlock 0, .code (sub [1, 1, 1] (bd f23))] ⟨[.rptr false [cQ x2], dD, dD, vI i3] ++ a8v 61, []⟩
variable (x6 : LL) (i7 : Int) (x8 : LI) (i9 : Int)
noncomputable def l10 : OB := Vm.runT cfg fin k [.inLoop (sub [1, 1, 0, 1, 0, 0, 1, 0, 0, 1, 1, 1, 0, 0] (bd f23)), .inBlock 2, .inBlock 1, .code (sub [1, 1, 0, 1, 0, 0, 1, 1] (bd f23)), .inLoop (sub [1, 1, 0, 1, 0, 0] (bd f23)), .inBlock 0, .code (sub [1, 1, 1] (bd f23))] ⟨[.rptr false [cQ x6], dD, dD, vI i7, vL x8, vI i9] ++ a8v 59, []⟩
theorem l4_eq : l4 (k + 1) x2 i3 = if (decide (i3 < (x2.length : Int))) = true then if 0 ≤ i3 ∧ i3 < (x2.length : Int) then (Af3.F (x2.getD i3.toNat ([] : LI), ())).bind fun r4 => if (!r4.1.1) = true then some ((false, ()), ()) else if (decide (i3 > 0)) = true then if 0 ≤ (IntKind.i64.wrap (i3 - 1)) ∧ (IntKind.i64.wrap (i3 - 1)) < (x2.length : Int) then (Aa5.F (x2.getD (IntKind.i64.wrap (i3 - 1)).toNat ([] : LI), x2.getD i3.toNat ([] : LI), ())).bind fun r5 => if (!r5.1.1) = true then some ((false, ()), ()) else l10 k x2 i3 (x2.getD i3.toNat ([] : LI)) (0 : Int) else none else l10 k x2 i3 (x2.getD i3.toNat ([] : LI)) (0 : Int) else none else some ((true, ()), ()) := by kernel_rfl
theorem l10_eq : l10 (k + 1) x6 i7 x8 i9 = if (decide (i9 < (x8.length : Int))) = true then if (decide ((x8.length : Int) > 1)) = true then (Ab5.F (x8, i9, ())).bind fun r10 => (Aa8.F (x6, r10.1.1, ())).bind fun r11 => if (decide (r11.1.1 < 0)) = true then some ((false, ()), ()) else l10 k x6 i7 x8 (IntKind.i64.wrap (i9 + 1)) else l4 k x6 (IntKind.i64.wrap (i7 + 1)) else l4 k x6 (IntKind.i64.wrap (i7 + 1)) := by kernel_rfl
variable (toArray_1 : LL)
noncomputable def T : OB := if (decide ((toArray_1.length : Int) > 48)) = true then some ((false, ()), ()) else l4 k toArray_1 (0 : Int)
theorem of {r} (h : Ev (fun k => T k toArray_1) r) : F (toArray_1, ()) = some r := Ev.run (fun k => by kernel_rfl) h
theorem S : a2u prog ⟨23, sig, F⟩ := sound_k (res := [.tmp 2]) func23 (cok (cM ⟨Af3.S, cM ⟨Aa5.S, cM ⟨Aa8.S, cM ⟨Ab5.S, nM⟩⟩⟩⟩))
end Aa1
namespace Aa0
noncomputable def sig : Sig := ⟨[.wp tQ .shal, pL], []⟩
noncomputable def ctx (self : (LL × LI × Unit) → Option ((Unit) × (LL × Unit))) : Ctx := ⟨a2U tabl, [⟨40, Aa5.sig, Aa5.F⟩, ⟨41, Aa8.sig, Aa8.F⟩, ⟨42, Ab5.sig, Ab5.F⟩, ⟨36, Aa3.sigF, Aa3.F⟩, ⟨59, sig, self⟩], [], [], [], []⟩
noncomputable def cfg (self : (LL × LI × Unit) → Option ((Unit) × (LL × Unit))) : Cfg := ⟨(ctx self), [0], [], fun id => match id with | 2 => ([0, 1, 4], [0]) | 6 => ([0, 1, 5], [0]) | _ => ([], []), fun _ => []⟩
noncomputable def code : Code := (f59).body.getD .skip
noncomputable def fin (self : (LL × LI × Unit) → Option ((Unit) × (LL × Unit))) := finK (ctx self) sig []
noncomputable def step (self : (LL × LI × Unit) → Option ((Unit) × (LL × Unit))) (d : LL × LI × Unit) : Option ((Unit) × (LL × Unit)) := anyK (a8n (cfg self) (fin self) code (a5S sig.ps d 71))
variable (self : (LL × LI × Unit) → Option ((Unit) × (LL × Unit))) (k : Nat) (x4 : LI) (i5 : Int) (x6 : LL)
noncomputable def l2 : Option ((Unit) × (LL × Unit)) := Vm.runT (cfg self) (fin self) k [.inLoop (sub [1, 0, 1, 0, 0] code), .inBlock 0, .code (sub [1, 1] code)] ⟨[.ref 0 (.root 0), vL x4, dD, dD, vI i5] ++ a8v 66, [(0, ⟨true, [⟨tQ, .shal, x6⟩]⟩)]⟩
variable (x9 : LI) (i10 : Int) (x11 : LL)
noncomputable def l6 : Option ((Unit) × (LL × Unit)) := Vm.runT (cfg self) (fin self) k [.inLoop (sub [1, 1, 1, 0, 0, 0] code), .inBlock 2, .code (sub [1, 1, 1, 1] code)] ⟨[.ref 0 (.root 0), vL x9, dD, dD, dD, vI i10] ++ a8v 65, [(0, ⟨true, [⟨tQ, .shal, x11⟩]⟩)]⟩
theorem l2_eq : l2 self (k + 1) x4 i5 x6 = if (decide (i5 < (x4.length : Int))) = true then if (decide ((x4.length : Int) > 1)) = true then (Ab5.F (x4, i5, ())).bind fun r7 => (self (x6, r7.1.1, ())).bind fun r8 => l2 self k x4 (IntKind.i64.wrap (i5 + 1)) r8.2.1 else l6 self k x4 (0 : Int) x6 else l6 self k x4 (0 : Int) x6 := by kernel_rfl
theorem l6_eq : l6 self (k + 1) x9 i10 x11 = if (decide (i10 < (x11.length : Int))) = true then if 0 ≤ i10 ∧ i10 < (x11.length : Int) then (Aa5.F (x11.getD i10.toNat ([] : LI), x9, ())).bind fun r12 => if r12.1.1 = true then l6 self k x9 (IntKind.i64.wrap (i10 + 1)) x11 else if 0 ≤ (0 : Int) ∧ (0 : Int) ≤ i10 ∧ i10 ≤ (x11.length : Int) then if ([] : LL).length + (cutL x11 (0 : Int) i10).length ≤ bigA then (Aa3.F (x9, ())).bind fun r13 => if (([] : LL) ++ (cutL x11 (0 : Int) i10)).length + [r13.1.1].length ≤ bigA then if 0 ≤ i10 ∧ i10 ≤ (x11.length : Int) ∧ (x11.length : Int) ≤ (x11.length : Int) then if ((([] : LL) ++ (cutL x11 (0 : Int) i10)) ++ [r13.1.1]).length + (cutL x11 i10 (x11.length : Int)).length ≤ bigA then let y14 : LL := ((([] : LL) ++ (cutL x11 (0 : Int) i10)) ++ [r13.1.1]) ++ (cutL x11 i10 (x11.length : Int)); some ((), (y14, ())) else none else none else none else none else none else none else if 0 ≤ (0 : Int) ∧ (0 : Int) ≤ i10 ∧ i10 ≤ (x11.length : Int) then if ([] : LL).length + (cutL x11 (0 : Int) i10).length ≤ bigA then (Aa3.F (x9, ())).bind fun r15 => if (([] : LL) ++ (cutL x11 (0 : Int) i10)).length + [r15.1.1].length ≤ bigA then if 0 ≤ i10 ∧ i10 ≤ (x11.length : Int) ∧ (x11.length : Int) ≤ (x11.length : Int) then if ((([] : LL) ++ (cutL x11 (0 : Int) i10)) ++ [r15.1.1]).length + (cutL x11 i10 (x11.length : Int)).length ≤ bigA then let y16 : LL := ((([] : LL) ++ (cutL x11 (0 : Int) i10)) ++ [r15.1.1]) ++ (cutL x11 i10 (x11.length : Int)); some ((), (y16, ())) else none else none else none else none else none := by kernel_rfl
variable (toArray_1 : LL) (a_2 : LI)
noncomputable def T : Option ((Unit) × (LL × Unit)) := (Aa8.F (toArray_1, a_2, ())).bind fun r3 => if (decide (r3.1.1 ≥ 0)) = true then some ((), (toArray_1, ())) else l2 self k a_2 (0 : Int) toArray_1
theorem run (self : (LL × LI × Unit) → Option ((Unit) × (LL × Unit))) (k : Nat) (toArray_1 : LL) (a_2 : LI) : a8n (cfg self) (fin self) code (a5S sig.ps (toArray_1, a_2, ()) 71) k = T self k toArray_1 a_2 := by kernel_rfl
theorem of {r} (h : Ev (fun k => T self k toArray_1 a_2) r) : step self (toArray_1, a_2, ()) = some r := Ev.run (fun k => run self k toArray_1 a_2) h
theorem ok (self : (LL × LI × Unit) → Option ((Unit) × (LL × Unit))) (hs : a2u prog ⟨59, sig, self⟩) : CtxOK prog (ctx self) := ⟨nilM, mixed_ok, tab_ok tab_good, consM ⟨Aa5.S, consM ⟨Aa8.S, consM ⟨Ab5.S, consM ⟨Aa3.SF, consM ⟨hs, nilM⟩⟩⟩⟩⟩, nilM, nilM⟩
theorem stepS (self : (LL × LI × Unit) → Option ((Unit) × (LL × Unit))) (hs : a2u prog ⟨59, sig, self⟩) : a2u prog ⟨59, sig, step self⟩ := b2K (fn := f59) (code := code) (g := cfg self) (res := []) func59 (by kernel_rfl) (by kernel_rfl) (ok self hs) (by kernel_rfl) (by kernel_rfl) (Nat.le_of_ble_eq_true (by kernel_rfl)) (by kernel_rfl)
noncomputable def R : Nat → (LL × LI × Unit) → Option ((Unit) × (LL × Unit)) := recF step
noncomputable def F (d : LL × LI × Unit) : Option ((Unit) × (LL × Unit)) := anyE fun q => R q d
theorem ofR {d : LL × LI × Unit} {r : (Unit) × (LL × Unit)} (h : Ev (fun q => R q d) r) : F d = some r := anyE_of h
theorem S : a2u prog ⟨59, sig, F⟩ := sound_rec ⟨_, func59, by kernel_rfl, by kernel_rfl⟩ fun self h => stepS self h
end Aa0
namespace Ad5
noncomputable def sig : Sig := ⟨[pQ], [(.val true, tQ, .shal)]⟩
noncomputable def cfg : Cfg := ⟨cx [⟨59, Aa0.sig, Aa0.F⟩], [], [], fun id => match id with | 3 => ([0, 2, 3, 4], [8, 12]) | _ => ([], []), fun id => match id with | 3 => [12] | _ => []⟩
noncomputable def fin := finK cfg.c sig [.cell 2 27]
noncomputable def F (d : LL × Unit) : OQ := anyK (a8n cfg fin (bd f37) (a5S sig.ps d 19))
variable (k : Nat) (x2 : LL) (i3 : Int) (x4 x5 : LL)
noncomputable def l3 : OQ := Vm.runT cfg fin k [.inLoop (sub [1, 1, 0, 1, 0, 0] (bd f37)), .inBlock 0, .code (sub [1, 1, 1] (bd f37))] ⟨[vQ x2, dD, .ref 8 (.root 0), .ref 12 (.root 0), vI i3] ++ a8v 14, [(8, ⟨true, [dQ x4]⟩), (12, ⟨true, [⟨tQ, .shal, x5⟩]⟩)]⟩
theorem l3_eq : l3 (k + 1) x2 i3 x4 x5 = if (decide (i3 < (x2.length : Int))) = true then if 0 ≤ i3 ∧ i3 < (x2.length : Int) then (Aa0.F (x5, x2.getD i3.toNat ([] : LI), ())).bind fun r6 => l3 k x2 (IntKind.i64.wrap (i3 + 1)) x4 r6.2.1 else none else some ((x5, ()), ()) := by kernel_rfl
variable (list_1 : LL)
noncomputable def T : OQ := l3 k list_1 (0 : Int) ([] : LL) ([] : LL)
theorem of {r} (h : Ev (fun k => T k list_1) r) : F (list_1, ()) = some r := Ev.run (fun k => by kernel_rfl) h
theorem S : a2u prog ⟨37, sig, F⟩ := sound_k (res := [.cell 2 27]) func37 (cok (cM ⟨Aa0.S, nM⟩))
end Ad5
namespace Aa7
noncomputable def sig : Sig := ⟨[pC, pC], [(.val true, tQ, .sh), oI]⟩
noncomputable def cfg : Cfg := cl (cx [⟨23, Aa1.sig, Aa1.F⟩, ⟨36, Aa3.sig, Aa3.F⟩, ⟨37, Ad5.sig, Ad5.F⟩]) fun id => match id with | 5 => ([2, 3, 4, 6, 7], [8, 12, 16, 24]) | 9 => ([3, 4, 6, 8], [12, 16, 24]) | _ => ([], [])
noncomputable def fin := finK cfg.c sig [.cell 4 27, .tmp 5]
noncomputable def F (d : LL × LL × Unit) : Option ((LL × Int × Unit) × (Unit)) := anyK (a8n cfg fin (bd f20) (a5S sig.ps d 58))
variable (k : Nat) (i5 : Int) (x6 x7 x8 x9 : LL)
noncomputable def l5 : Option ((LL × Int × Unit) × (Unit)) := Vm.runT cfg fin k [.inLoop (sub [1, 1, 1, 0, 1, 0, 0] (bd f20)), .inBlock 0, .code (sub [1, 1, 1, 1] (bd f20))] ⟨[dD, dD, .ref 8 (.root 0), .ref 12 (.root 0), .ref 16 (.root 0), dD, .view 24 (.root 0) 1 false, vI i5] ++ a8v 50, [(8, ⟨true, [cQ x6]⟩), (12, ⟨true, [cQ x7]⟩), (16, ⟨true, [dQ x8]⟩), (24, ⟨false, [dQ x9]⟩)]⟩
variable (i11 : Int) (x12 x13 x14 : LL)
noncomputable def l9 : Option ((LL × Int × Unit) × (Unit)) := Vm.runT cfg fin k [.inLoop (sub [1, 1, 1, 1, 0, 1, 0, 0] (bd f20)), .inBlock 2, .code (sub [1, 1, 1, 1, 1] (bd f20))] ⟨[dD, dD, dD, .ref 12 (.root 0), .ref 16 (.root 0), dD, .view 24 (.root 0) 1 false, dD, vI i11] ++ a8v 49, [(12, ⟨true, [cQ x12]⟩), (16, ⟨true, [dQ x13]⟩), (24, ⟨false, [dQ x14]⟩)]⟩
theorem l5_eq : l5 (k + 1) i5 x6 x7 x8 x9 = if (decide (i5 < (x6.length : Int))) = true then if 0 ≤ i5 ∧ i5 < (x6.length : Int) then (Aa3.F (x6.getD i5.toNat ([] : LI), ())).bind fun r10 => if x9.length + [r10.1.1].length ≤ bigA then l5 k (IntKind.i64.wrap (i5 + 1)) x6 x7 x8 (x9 ++ [r10.1.1]) else none else none else l9 k (0 : Int) x7 x8 x9 := by kernel_rfl
theorem l9_eq : l9 (k + 1) i11 x12 x13 x14 = if (decide (i11 < (x12.length : Int))) = true then if 0 ≤ i11 ∧ i11 < (x12.length : Int) then (Aa3.F (x12.getD i11.toNat ([] : LI), ())).bind fun r15 => if x14.length + [r15.1.1].length ≤ bigA then l9 k (IntKind.i64.wrap (i11 + 1)) x12 x13 (x14 ++ [r15.1.1]) else none else none else (Ad5.F (x14, ())).bind fun r16 => if (decide ((r16.1.1.length : Int) > 48)) = true then some (([], ((5 : Int), ())), ()) else some ((r16.1.1, ((0 : Int), ())), ()) := by kernel_rfl
variable (a_1 b_2 : LL)
noncomputable def T : Option ((LL × Int × Unit) × (Unit)) := (Aa1.F (a_1, ())).bind fun r3 => if (!r3.1.1) = true then some (([], ((1 : Int), ())), ()) else (Aa1.F (b_2, ())).bind fun r4 => if (!r4.1.1) = true then some (([], ((1 : Int), ())), ()) else l5 k (0 : Int) a_1 b_2 ([] : LL) ([] : LL)
theorem of {r} (h : Ev (fun k => T k a_1 b_2) r) : F (a_1, b_2, ()) = some r := Ev.run (fun k => by kernel_rfl) h
theorem S : a2u prog ⟨20, sig, F⟩ := sound_k (res := [.cell 4 27, .tmp 5]) func20 (cok (cM ⟨Aa1.S, cM ⟨Aa3.S, cM ⟨Ad5.S, nM⟩⟩⟩))
end Aa7
namespace Ab6
noncomputable def sig : Sig := ⟨[pL], [oB]⟩
noncomputable def cfg : Cfg := cl (cx []) fun id => match id with | 2 => ([0, 3], []) | _ => ([], [])
noncomputable def fin := finK cfg.c sig [.tmp 2]
noncomputable def F (d : LI × Unit) : OB := anyK (a8n cfg fin (bd f63) (a5S sig.ps d 20))
variable (k : Nat) (x2 : LI) (i3 : Int)
noncomputable def l2 : OB := Vm.runT cfg fin k [.inLoop (sub [1, 0, 1, 0, 0] (bd f63)), .inBlock 0, .code (sub [1, 1] (bd f63))] ⟨[vL x2, dD, dD, vI i3] ++ a8v 16, []⟩
theorem l2_eq : l2 (k + 1) x2 i3 = if (decide (i3 < (x2.length : Int))) = true then if 0 ≤ (IntKind.i64.wrap (i3 - 1)) ∧ (IntKind.i64.wrap (i3 - 1)) < (x2.length : Int) then if 0 ≤ i3 ∧ i3 < (x2.length : Int) then if (decide ((x2.getD (IntKind.i64.wrap (i3 - 1)).toNat 0) ≥ (x2.getD i3.toNat 0 : Int))) = true then some ((false, ()), ()) else l2 k x2 (IntKind.i64.wrap (i3 + 1)) else none else none else some ((true, ()), ()) := by kernel_rfl
variable (list_1 : LI)
noncomputable def T : OB := l2 k list_1 (1 : Int)
theorem of {r} (h : Ev (fun k => T k list_1) r) : F (list_1, ()) = some r := Ev.run (fun k => by kernel_rfl) h
theorem S : a2u prog ⟨63, sig, F⟩ := sound_k (res := [.tmp 2]) func63 (cok nM)
end Ab6
namespace Ad3
noncomputable def sig : Sig := ⟨[pL, .fnx ⟨[(false, tI)], [oB]⟩], [oI]⟩
noncomputable def cfg : Cfg := cl (cx []) fun id => match id with | 2 => ([0, 1, 7, 8], []) | _ => ([], [])
noncomputable def fin := finK cfg.c sig [.tmp 4]
noncomputable def F (d : LI × ((Int × Unit) → Option (Bool × Unit)) × Unit) : OI := anyK (a8n cfg fin (bd f83) (a5S sig.ps d 19))
variable (k : Nat) (x3 : LI) (f4 : (Int × Unit) → Option (Bool × Unit)) (i5 i6 : Int)
noncomputable def l2 : OI := Vm.runT cfg fin k [.inLoop (sub [1, 0, 1, 0, 0] (bd f83)), .inBlock 0, .code (sub [1, 1] (bd f83))] ⟨[vL x3, .fnx ⟨[(false, tI)], [(.val false, .bool, .deep)]⟩ f4, dD, dD, dD, dD, dD, vI i5, vI i6] ++ a8v 10, []⟩
theorem l2_eq : l2 (k + 1) x3 f4 i5 i6 = if (decide (i6 < i5)) = true then if 0 ≤ i6 ∧ i6 < (x3.length : Int) then (f4 ((x3.getD i6.toNat 0 : Int), ())).bind fun r7 => if r7.1 = true then some ((i6, ()), ()) else l2 k x3 f4 i5 (IntKind.i64.wrap (i6 + 1)) else none else some (((-1 : Int), ()), ()) := by kernel_rfl
variable (s_1 : LI) (f_2 : (Int × Unit) → Option (Bool × Unit))
noncomputable def T : OI := l2 k s_1 f_2 (s_1.length : Int) (0 : Int)
theorem of {r} (h : Ev (fun k => T k s_1 f_2) r) : F (s_1, f_2, ()) = some r := Ev.run (fun k => by kernel_rfl) h
theorem S : a2u prog ⟨83, sig, F⟩ := sound_k (res := [.tmp 4]) func83 (cok nM)
end Ad3
namespace Af2
noncomputable def sig : Sig := ⟨[pL, .fnx ⟨[(false, tI)], [oB]⟩], [oB]⟩
noncomputable def cfg : Cfg := cf (cx [⟨83, Ad3.sig, Ad3.F⟩])
noncomputable def fin := finK cfg.c sig [.tmp 4]
noncomputable def F (d : LI × ((Int × Unit) → Option (Bool × Unit)) × Unit) : OB := anyK (a8n cfg fin (bd f64) (a5S sig.ps d 9))
variable (s_1 : LI) (f_2 : (Int × Unit) → Option (Bool × Unit))
noncomputable def T : OB := (Ad3.F (s_1, f_2, ())).bind fun r3 => some ((decide (r3.1.1 ≥ 0), ()), ())
theorem eq : F (s_1, f_2, ()) = T s_1 f_2 := eq_any fun k => by kernel_rfl
theorem S : a2u prog ⟨64, sig, F⟩ := sound_k (res := [.tmp 4]) func64 (cok (cM ⟨Ad3.S, nM⟩))
end Af2
namespace Ae7
noncomputable def sig : Sig := ⟨[pI, pI, pI], [oB]⟩
noncomputable def cfg : Cfg := cf (cx [])
noncomputable def fin := finK cfg.c sig [.tmp 6]
noncomputable def F (d : Int × Int × Int × Unit) : OB := anyK (a8n cfg fin (bd f84) (a5S sig.ps d 15))
variable (n_1 low_2 high_3 : Int)
noncomputable def T : OB := if (decide (n_1 ≥ low_2)) = true then some ((decide (n_1 ≤ high_3), ()), ()) else some ((false, ()), ())
theorem eq : F (n_1, low_2, high_3, ()) = T n_1 low_2 high_3 := eq_any fun k => by kernel_rfl
theorem S : a2u prog ⟨84, sig, F⟩ := sound_k (res := [.tmp 6]) func84 (cok nM)
end Ae7
namespace Af8
noncomputable def sig : Sig := ⟨[pI], [oB]⟩
noncomputable def cfg : Cfg := cf (cx [⟨84, Ae7.sig, Ae7.F⟩])
noncomputable def fin := finK cfg.c sig [.tmp 2]
noncomputable def F (d : Int × Unit) : OB := anyK (a8n cfg fin (bd f66) (a5S sig.ps d 5))
variable (v_1 : Int)
noncomputable def T : OB := (Ae7.F (v_1, (0 : Int), (9 : Int), ())).bind fun r2 => some ((r2.1.1, ()), ())
theorem eq : F (v_1, ()) = T v_1 := eq_any fun k => by kernel_rfl
theorem S : a2u prog ⟨66, sig, F⟩ := sound_k (res := [.tmp 2]) func66 (cok (cM ⟨Ae7.S, nM⟩))
end Af8
namespace Af7
noncomputable def sig : Sig := ⟨[pI], [oB]⟩
noncomputable def cfg : Cfg := cf (cx [⟨66, Af8.sig, Af8.F⟩])
noncomputable def fin := finK cfg.c sig [.tmp 2]
noncomputable def F (d : Int × Unit) : OB := anyK (a8n cfg fin (bd f65) (a5S sig.ps d 6))
variable (v_1 : Int)
noncomputable def T : OB := (Af8.F (v_1, ())).bind fun r2 => some ((!r2.1.1, ()), ())
theorem eq : F (v_1, ()) = T v_1 := eq_any fun k => by kernel_rfl
theorem S : a2u prog ⟨65, sig, F⟩ := sound_k (res := [.tmp 2]) func65 (cok (cM ⟨Af8.S, nM⟩))
noncomputable def cloG (y : Unit) (d : Int × Unit) : Option (Bool × Unit) := (F (a9Q [] [(false, tI)] d y)).map (·.1)
noncomputable def clo : Clo := ⟨65, ⟨[(false, tI)], [(.val false, .bool, .deep)]⟩, [], cloG⟩
theorem cloS : a2Y prog clo := sound_clo (s := ⟨[(false, tI)], [(.val false, .bool, .deep)]⟩) (caps := []) rfl S
end Af7
namespace Ae3
noncomputable def sig : Sig := ⟨[pL], [oB]⟩
noncomputable def cfg : Cfg := cf ⟨a2U tabl, [⟨63, Ab6.sig, Ab6.F⟩, ⟨64, Af2.sig, Af2.F⟩], [Af7.clo], [], [], []⟩
noncomputable def fin := finK cfg.c sig [.tmp 2]
noncomputable def F (d : LI × Unit) : OB := anyK (a8n cfg fin (bd f43) (a5S sig.ps d 20))
variable (s_1 : LI)
noncomputable def T : OB := if (decide ((s_1.length : Int) ≥ 1)) = true then if (decide ((s_1.length : Int) ≤ 4)) = true then (Ab6.F (s_1, ())).bind fun r2 => if r2.1.1 = true then (Af2.F (s_1, Af7.cloG (()), ())).bind fun r3 => some ((!r3.1.1, ()), ()) else some ((false, ()), ()) else some ((false, ()), ()) else some ((false, ()), ())
theorem eq : F (s_1, ()) = T s_1 := eq_any fun k => by kernel_rfl
theorem S : a2u prog ⟨43, sig, F⟩ := sound_k (res := [.tmp 2]) func43 (⟨nM, mixed_ok, tab_ok tab_good, cM ⟨Ab6.S, cM ⟨Af2.S, nM⟩⟩, cM ⟨Af7.cloS, nM⟩, nM⟩)
end Ae3
namespace Ac2
noncomputable def sig : Sig := ⟨[pL], [oI]⟩
noncomputable def cfg : Cfg := cl (cx []) fun id => match id with | 3 => ([3, 6, 7, 8], []) | _ => ([], [])
noncomputable def fin := finK cfg.c sig [.tmp 2]
noncomputable def F (d : LI × Unit) : OI := anyK (a8n cfg fin (bd f67) (a5S sig.ps d 18))
variable (k : Nat) (i2 : Int) (x3 : LI) (i4 i5 : Int)
noncomputable def l3 : OI := Vm.runT cfg fin k [.inLoop (sub [1, 1, 0, 1, 0, 0] (bd f67)), .inBlock 0, .code (sub [1, 1, 1] (bd f67))] ⟨[dD, dD, dD, vI i2, dD, dD, vL x3, vI i4, vI i5] ++ a8v 9, []⟩
theorem l3_eq : l3 (k + 1) i2 x3 i4 i5 = if (decide (i5 < i4)) = true then if 0 ≤ i5 ∧ i5 < (x3.length : Int) then if ((x3.getD i5.toNat 0 : Int) != i2) = true then some (((x3.getD i5.toNat 0 : Int), ()), ()) else l3 k i2 x3 i4 (IntKind.i64.wrap (i5 + 1)) else none else some ((i2, ()), ()) := by kernel_rfl
variable (vals_1 : LI)
noncomputable def T : OI := l3 k (0 : Int) vals_1 (vals_1.length : Int) (0 : Int)
theorem of {r} (h : Ev (fun k => T k vals_1) r) : F (vals_1, ()) = some r := Ev.run (fun k => by kernel_rfl) h
theorem S : a2u prog ⟨67, sig, F⟩ := sound_k (res := [.tmp 2]) func67 (cok nM)
end Ac2
namespace Ae0
noncomputable def sig : Sig := ⟨[pI], [oB]⟩
noncomputable def cfg : Cfg := cf (cx [])
noncomputable def fin := finK cfg.c sig [.tmp 2]
noncomputable def F (d : Int × Unit) : OB := anyK (a8n cfg fin (bd f85) (a5S sig.ps d 6))
variable (x_1 : Int)
noncomputable def T : OB := some ((x_1 != x_1, ()), ())
theorem eq : F (x_1, ()) = T x_1 := eq_any fun k => by kernel_rfl
theorem S : a2u prog ⟨85, sig, F⟩ := sound_k (res := [.tmp 2]) func85 (cok nM)
end Ae0
namespace Ad8
noncomputable def sig : Sig := ⟨[pI, pI], [oI]⟩
noncomputable def cfg : Cfg := cf (cx [⟨85, Ae0.sig, Ae0.F⟩])
noncomputable def fin := finK cfg.c sig [.tmp 4]
noncomputable def F (d : Int × Int × Unit) : OI := anyK (a8n cfg fin (bd f68) (a5S sig.ps d 20))
variable (x_1 y_2 : Int)
noncomputable def T : OI := (Ae0.F (x_1, ())).bind fun r3 => (Ae0.F (y_2, ())).bind fun r4 => if r3.1.1 = true then if r4.1.1 = true then some ((0, ()), ()) else some (((-1 : Int), ()), ()) else if r4.1.1 = true then some ((1, ()), ()) else if (decide (x_1 < y_2)) = true then some (((-1 : Int), ()), ()) else if (decide (x_1 > y_2)) = true then some ((1, ()), ()) else some ((0, ()), ())
theorem eq : F (x_1, y_2, ()) = T x_1 y_2 := eq_any fun k => by kernel_rfl
theorem S : a2u prog ⟨68, sig, F⟩ := sound_k (res := [.tmp 4]) func68 (cok (cM ⟨Ae0.S, nM⟩))
end Ad8
namespace Ae1
noncomputable def sig : Sig := ⟨[pI], [oB]⟩
noncomputable def cfg : Cfg := cf (cx [])
noncomputable def fin := finK cfg.c sig [.tmp 2]
noncomputable def F (d : Int × Unit) : OB := anyK (a8n cfg fin (bd f94) (a5S sig.ps d 6))
variable (x_1 : Int)
noncomputable def T : OB := some ((x_1 != x_1, ()), ())
theorem eq : F (x_1, ()) = T x_1 := eq_any fun k => by kernel_rfl
theorem S : a2u prog ⟨94, sig, F⟩ := sound_k (res := [.tmp 2]) func94 (cok nM)
end Ae1
namespace Ad9
noncomputable def sig : Sig := ⟨[pI, pI], [oI]⟩
noncomputable def cfg : Cfg := cf (cx [⟨94, Ae1.sig, Ae1.F⟩])
noncomputable def fin := finK cfg.c sig [.tmp 4]
noncomputable def F (d : Int × Int × Unit) : OI := anyK (a8n cfg fin (bd f86) (a5S sig.ps d 20))
variable (x_1 y_2 : Int)
noncomputable def T : OI := (Ae1.F (x_1, ())).bind fun r3 => (Ae1.F (y_2, ())).bind fun r4 => if r3.1.1 = true then if r4.1.1 = true then some ((0, ()), ()) else some (((-1 : Int), ()), ()) else if r4.1.1 = true then some ((1, ()), ()) else if (decide (x_1 < y_2)) = true then some (((-1 : Int), ()), ()) else if (decide (x_1 > y_2)) = true then some ((1, ()), ()) else some ((0, ()), ())
theorem eq : F (x_1, y_2, ()) = T x_1 y_2 := eq_any fun k => by kernel_rfl
theorem S : a2u prog ⟨86, sig, F⟩ := sound_k (res := [.tmp 4]) func86 (cok (cM ⟨Ae1.S, nM⟩))
end Ad9
namespace Ac6
noncomputable def sig : Sig := ⟨[pL, pL], [oI]⟩
noncomputable def cfg : Cfg := cl (cx [⟨86, Ad9.sig, Ad9.F⟩]) fun id => match id with | 2 => ([0, 1, 9, 10, 11], []) | _ => ([], [])
noncomputable def fin := finK cfg.c sig [.tmp 4]
noncomputable def F (d : LI × LI × Unit) : OI := anyK (a8n cfg fin (bd f69) (a5S sig.ps d 36))
variable (k : Nat) (x3 x4 x5 : LI) (i6 i7 : Int)
noncomputable def l2 : OI := Vm.runT cfg fin k [.inLoop (sub [1, 0, 1, 0, 0] (bd f69)), .inBlock 0, .code (sub [1, 1] (bd f69))] ⟨[vL x3, vL x4, dD, dD, dD, dD, dD, dD, dD, vL x5, vI i6, vI i7] ++ a8v 24, []⟩
theorem l2_eq : l2 (k + 1) x3 x4 x5 i6 i7 = if (decide (i7 < i6)) = true then if 0 ≤ i7 ∧ i7 < (x5.length : Int) then if (decide (i7 ≥ (x4.length : Int))) = true then some ((1, ()), ()) else if 0 ≤ i7 ∧ i7 < (x4.length : Int) then (Ad9.F ((x5.getD i7.toNat 0 : Int), (x4.getD i7.toNat 0 : Int), ())).bind fun r8 => if (r8.1.1 != 0) = true then some ((r8.1.1, ()), ()) else l2 k x3 x4 x5 i6 (IntKind.i64.wrap (i7 + 1)) else none else none else if (decide ((x3.length : Int) < (x4.length : Int))) = true then some (((-1 : Int), ()), ()) else some ((0, ()), ()) := by kernel_rfl
variable (s1_1 s2_2 : LI)
noncomputable def T : OI := l2 k s1_1 s2_2 s1_1 (s1_1.length : Int) (0 : Int)
theorem of {r} (h : Ev (fun k => T k s1_1 s2_2) r) : F (s1_1, s2_2, ()) = some r := Ev.run (fun k => by kernel_rfl) h
theorem S : a2u prog ⟨69, sig, F⟩ := sound_k (res := [.tmp 4]) func69 (cok (cM ⟨Ad9.S, nM⟩))
end Ac6
namespace Aa2
noncomputable def sig : Sig := ⟨[pL, pL], [oI]⟩
noncomputable def cfg : Cfg := cf (cx [⟨67, Ac2.sig, Ac2.F⟩, ⟨68, Ad8.sig, Ad8.F⟩, ⟨69, Ac6.sig, Ac6.F⟩])
noncomputable def fin := finK cfg.c sig [.tmp 4]
noncomputable def F (d : LI × LI × Unit) : OI := anyK (a8n cfg fin (bd f44) (a5S sig.ps d 15))
variable (a_1 b_2 : LI)
noncomputable def T : OI := (Ad8.F ((a_1.length : Int), (b_2.length : Int), ())).bind fun r3 => (Ac6.F (a_1, b_2, ())).bind fun r4 => (Ac2.F ([r3.1.1, r4.1.1], ())).bind fun r5 => some ((r5.1.1, ()), ())
theorem eq : F (a_1, b_2, ()) = T a_1 b_2 := eq_any fun k => by kernel_rfl
theorem S : a2u prog ⟨44, sig, F⟩ := sound_k (res := [.tmp 4]) func44 (cok (cM ⟨Ac2.S, cM ⟨Ad8.S, cM ⟨Ac6.S, nM⟩⟩⟩))
noncomputable def cloG (y : Unit) (d : LI × LI × Unit) : Option (Int × Unit) := (F (a9Q [] [(false, tL), (false, tL)] d y)).map (·.1)
noncomputable def clo : Clo := ⟨44, ⟨[(false, tL), (false, tL)], [(.val false, tI, .deep)]⟩, [], cloG⟩
theorem cloS : a2Y prog clo := sound_clo (s := ⟨[(false, tL), (false, tL)], [(.val false, tI, .deep)]⟩) (caps := []) rfl S
end Aa2
namespace Ad2
noncomputable def sig : Sig := ⟨[pQ, .fnx ⟨[(false, tL)], [oB]⟩], [oI]⟩
noncomputable def cfg : Cfg := cl (cx []) fun id => match id with | 2 => ([0, 1, 7, 8], []) | _ => ([], [])
noncomputable def fin := finK cfg.c sig [.tmp 4]
noncomputable def F (d : LL × ((LI × Unit) → Option (Bool × Unit)) × Unit) : OI := anyK (a8n cfg fin (bd f70) (a5S sig.ps d 19))
variable (k : Nat) (x3 : LL) (f4 : (LI × Unit) → Option (Bool × Unit)) (i5 i6 : Int)
noncomputable def l2 : OI := Vm.runT cfg fin k [.inLoop (sub [1, 0, 1, 0, 0] (bd f70)), .inBlock 0, .code (sub [1, 1] (bd f70))] ⟨[vQ x3, .fnx ⟨[(false, tL)], [(.val false, .bool, .deep)]⟩ f4, dD, dD, dD, dD, dD, vI i5, vI i6] ++ a8v 10, []⟩
theorem l2_eq : l2 (k + 1) x3 f4 i5 i6 = if (decide (i6 < i5)) = true then if 0 ≤ i6 ∧ i6 < (x3.length : Int) then (f4 (x3.getD i6.toNat ([] : LI), ())).bind fun r7 => if r7.1 = true then some ((i6, ()), ()) else l2 k x3 f4 i5 (IntKind.i64.wrap (i6 + 1)) else none else some (((-1 : Int), ()), ()) := by kernel_rfl
variable (s_1 : LL) (f_2 : (LI × Unit) → Option (Bool × Unit))
noncomputable def T : OI := l2 k s_1 f_2 (s_1.length : Int) (0 : Int)
theorem of {r} (h : Ev (fun k => T k s_1 f_2) r) : F (s_1, f_2, ()) = some r := Ev.run (fun k => by kernel_rfl) h
theorem S : a2u prog ⟨70, sig, F⟩ := sound_k (res := [.tmp 4]) func70 (cok nM)
end Ad2
namespace Ad7
noncomputable def sig : Sig := ⟨[pQ, .fnx ⟨[(false, tL)], [oB]⟩], [oB]⟩
noncomputable def cfg : Cfg := cf (cx [⟨70, Ad2.sig, Ad2.F⟩])
noncomputable def fin := finK cfg.c sig [.tmp 4]
noncomputable def F (d : LL × ((LI × Unit) → Option (Bool × Unit)) × Unit) : OB := anyK (a8n cfg fin (bd f45) (a5S sig.ps d 9))
variable (s_1 : LL) (f_2 : (LI × Unit) → Option (Bool × Unit))
noncomputable def T : OB := (Ad2.F (s_1, f_2, ())).bind fun r3 => some ((decide (r3.1.1 ≥ 0), ()), ())
theorem eq : F (s_1, f_2, ()) = T s_1 f_2 := eq_any fun k => by kernel_rfl
theorem S : a2u prog ⟨45, sig, F⟩ := sound_k (res := [.tmp 4]) func45 (cok (cM ⟨Ad2.S, nM⟩))
end Ad7
namespace Ab2
noncomputable def sig : Sig := ⟨[pQ], [oL]⟩
noncomputable def cfg : Cfg := cl (⟨a2U tabl, [], [], [], [(87, tI)], []⟩) fun id => match id with | 3 => ([0, 3, 9, 10, 11], []) | 11 => ([6, 25, 26, 27], [24]) | _ => ([], [])
noncomputable def fin := finK cfg.c sig [.tmp 2]
noncomputable def F (d : LL × Unit) : OL := anyK (a8n cfg fin (bd f71) (a5S sig.ps d 36))
variable (k : Nat) (x2 : LL) (i3 : Int) (x4 : LL) (i5 i6 : Int)
noncomputable def l3 : OL := Vm.runT cfg fin k [.inLoop (sub [1, 1, 0, 1, 0, 0] (bd f71)), .inBlock 0, .code (sub [1, 1, 1] (bd f71))] ⟨[vQ x2, dD, dD, vI i3, dD, dD, dD, dD, dD, vQ x4, vI i5, vI i6] ++ a8v 24, []⟩
variable (x7 : LL) (i8 i9 : Int) (x10 : LI)
noncomputable def l11 : OL := Vm.runT cfg fin k [.inLoop (sub [1, 1, 1, 1, 0, 1, 0, 0] (bd f71)), .inBlock 2, .code (sub [1, 1, 1, 1, 1] (bd f71))] ⟨[dD, dD, dD, dD, dD, dD, .view 24 (.root 0) 1 false, dD, dD, dD, dD, dD, dD, dD, dD, dD, dD, dD, dD, dD, dD, dD, dD, dD, dD, vQ x7, vI i8, vI i9] ++ a8v 8, [(24, ⟨false, [dL x10]⟩)]⟩
theorem l3_eq : l3 (k + 1) x2 i3 x4 i5 i6 = if (decide (i6 < i5)) = true then if 0 ≤ i6 ∧ i6 < (x4.length : Int) then if (decide ((IntKind.i64.wrap (i3 + ((x4.getD i6.toNat ([] : LI)).length : Int))) < 0)) = true then none else l3 k x2 (IntKind.i64.wrap (i3 + ((x4.getD i6.toNat ([] : LI)).length : Int))) x4 i5 (IntKind.i64.wrap (i6 + 1)) else none else if 0 ≤ i3 ∧ i3 ≤ (bigN : Int) then l11 k x2 (x2.length : Int) (0 : Int) ([] : LI) else none := by kernel_rfl
theorem l11_eq : l11 (k + 1) x7 i8 i9 x10 = if (decide (i9 < i8)) = true then if 0 ≤ i9 ∧ i9 < (x7.length : Int) then if x10.length + (x7.getD i9.toNat ([] : LI)).length ≤ bigA then l11 k x7 i8 (IntKind.i64.wrap (i9 + 1)) (x10 ++ (x7.getD i9.toNat ([] : LI))) else none else none else some ((x10, ()), ()) := by kernel_rfl
variable (slices_1 : LL)
noncomputable def T : OL := l3 k slices_1 (0 : Int) slices_1 (slices_1.length : Int) (0 : Int)
theorem of {r} (h : Ev (fun k => T k slices_1) r) : F (slices_1, ()) = some r := Ev.run (fun k => by kernel_rfl) h
theorem S : a2u prog ⟨71, sig, F⟩ := sound_k (res := [.tmp 2]) func71 (⟨nM, mixed_ok, tab_ok tab_good, nM, nM, cM ⟨slices_Grow_Lint64_int64.growOK, nM⟩⟩)
end Ab2
namespace Ab0
noncomputable def sig : Sig := ⟨[pL], [oQ]⟩
noncomputable def cfg : Cfg := cl (cx [⟨71, Ab2.sig, Ab2.F⟩]) fun id => match id with | 3 => ([0, 3, 6, 7], [12]) | _ => ([], [])
noncomputable def fin := finK cfg.c sig [.tmp 2]
noncomputable def F (d : LI × Unit) : OQ := anyK (a8n cfg fin (bd f46) (a5S sig.ps d 27))
variable (k : Nat) (x2 : LI) (i3 i4 : Int) (x5 : LL)
noncomputable def l3 : OQ := Vm.runT cfg fin k [.inLoop (sub [1, 1, 0, 1, 0, 0] (bd f46)), .inBlock 0, .code (sub [1, 1, 1] (bd f46))] ⟨[vL x2, dD, dD, .view 12 (.root 0) 1 false, dD, dD, vI i3, vI i4] ++ a8v 19, [(12, ⟨false, [dQ x5]⟩)]⟩
theorem l3_eq : l3 (k + 1) x2 i3 i4 x5 = if (decide (i4 < i3)) = true then if (decide ((x2.length : Int) > 1)) = true then if 0 ≤ (0 : Int) ∧ (0 : Int) ≤ i4 ∧ i4 ≤ (x2.length : Int) then if 0 ≤ (IntKind.i64.wrap (i4 + 1)) ∧ (IntKind.i64.wrap (i4 + 1)) ≤ (x2.length : Int) ∧ (x2.length : Int) ≤ (x2.length : Int) then (Ab2.F ([cutL x2 (0 : Int) i4, cutL x2 (IntKind.i64.wrap (i4 + 1)) (x2.length : Int)], ())).bind fun r6 => if x5.length + [r6.1.1].length ≤ bigA then l3 k x2 i3 (IntKind.i64.wrap (i4 + 1)) (x5 ++ [r6.1.1]) else none else none else none else l3 k x2 i3 (IntKind.i64.wrap (i4 + 1)) x5 else some ((x5, ()), ()) := by kernel_rfl
variable (s_1 : LI)
noncomputable def T : OQ := l3 k s_1 (s_1.length : Int) (0 : Int) ([])
theorem of {r} (h : Ev (fun k => T k s_1) r) : F (s_1, ()) = some r := Ev.run (fun k => by kernel_rfl) h
theorem S : a2u prog ⟨46, sig, F⟩ := sound_k (res := [.tmp 2]) func46 (cok (cM ⟨Ab2.S, nM⟩))
end Ab0
namespace Af0
noncomputable def sig : Sig := ⟨[pQ, pL, .fnx ⟨[(false, tL), (false, tL)], [oI]⟩], [oI, oB]⟩
noncomputable def cfg : Cfg := cl (cx []) fun id => match id with | 3 => ([0, 1, 2, 8, 9, 10], []) | _ => ([], [])
noncomputable def fin := finK cfg.c sig [.tmp 6, .tmp 7]
noncomputable def F (d : LL × LI × ((LI × LI × Unit) → Option (Int × Unit)) × Unit) : Option ((Int × Bool × Unit) × (Unit)) := anyK (a8n cfg fin (bd f72) (a5S sig.ps d 49))
variable (k : Nat) (x4 : LL) (x5 : LI) (f6 : (LI × LI × Unit) → Option (Int × Unit)) (i7 i8 i9 : Int)
noncomputable def l3 : Option ((Int × Bool × Unit) × (Unit)) := Vm.runT cfg fin k [.inLoop (sub [1, 1, 1, 0, 0, 0] (bd f72)), .inBlock 0, .code (sub [1, 1, 1, 1] (bd f72))] ⟨[vQ x4, vL x5, .fnx ⟨[(false, tL), (false, tL)], [(.val false, tI, .deep)]⟩ f6, dD, dD, dD, dD, dD, vI i7, vI i8, vI i9] ++ a8v 38, []⟩
theorem l3_eq : l3 (k + 1) x4 x5 f6 i7 i8 i9 = if (decide (i8 < i9)) = true then if (1 : Int) < 0 then none else if 0 ≤ (IntKind.i64.wrap ((IntKind.u64.wrap (IntKind.i64.wrap (i8 + i9))).fdiv (2 ^ (min (1 : Int).toNat IntKind.u64.bits)))) ∧ (IntKind.i64.wrap ((IntKind.u64.wrap (IntKind.i64.wrap (i8 + i9))).fdiv (2 ^ (min (1 : Int).toNat IntKind.u64.bits)))) < (x4.length : Int) then (f6 (x4.getD (IntKind.i64.wrap ((IntKind.u64.wrap (IntKind.i64.wrap (i8 + i9))).fdiv (2 ^ (min (1 : Int).toNat IntKind.u64.bits)))).toNat ([] : LI), x5, ())).bind fun r10 => if (decide (r10.1 < 0)) = true then l3 k x4 x5 f6 i7 (IntKind.i64.wrap ((IntKind.i64.wrap ((IntKind.u64.wrap (IntKind.i64.wrap (i8 + i9))).fdiv (2 ^ (min (1 : Int).toNat IntKind.u64.bits)))) + 1)) i9 else l3 k x4 x5 f6 i7 i8 (IntKind.i64.wrap ((IntKind.u64.wrap (IntKind.i64.wrap (i8 + i9))).fdiv (2 ^ (min (1 : Int).toNat IntKind.u64.bits)))) else none else if (decide (i8 < i7)) = true then if 0 ≤ i8 ∧ i8 < (x4.length : Int) then (f6 (x4.getD i8.toNat ([] : LI), x5, ())).bind fun r11 => some ((i8, (r11.1 == (0 : Int), ())), ()) else none else some ((i8, (false, ())), ()) := by kernel_rfl
variable (x_1 : LL) (target_2 : LI) (f_3 : (LI × LI × Unit) → Option (Int × Unit))
noncomputable def T : Option ((Int × Bool × Unit) × (Unit)) := l3 k x_1 target_2 f_3 (x_1.length : Int) (0 : Int) (x_1.length : Int)
theorem of {r} (h : Ev (fun k => T k x_1 target_2 f_3) r) : F (x_1, target_2, f_3, ()) = some r := Ev.run (fun k => by kernel_rfl) h
theorem S : a2u prog ⟨72, sig, F⟩ := sound_k (res := [.tmp 6, .tmp 7]) func72 (cok nM)
end Af0
namespace Ae5
noncomputable def sig : Sig := ⟨[pC, pL], [oI]⟩
noncomputable def cfg : Cfg := cf ⟨a2U tabl, [⟨72, Af0.sig, Af0.F⟩], [Aa2.clo], [], [], []⟩
noncomputable def fin := finK cfg.c sig [.tmp 4]
noncomputable def F (d : LL × LI × Unit) : OI := anyK (a8n cfg fin (bd f48) (a5S sig.ps d 17))
variable (c_1 : LL) (s_2 : LI)
noncomputable def T : OI := (Af0.F (c_1, s_2, Aa2.cloG (()), ())).bind fun r3 => if (!r3.1.2.1) = true then some (((-1 : Int), ()), ()) else some ((r3.1.1, ()), ())
theorem eq : F (c_1, s_2, ()) = T c_1 s_2 := eq_any fun k => by kernel_rfl
theorem S : a2u prog ⟨48, sig, F⟩ := sound_k (res := [.tmp 4]) func48 (⟨nM, mixed_ok, tab_ok tab_good, cM ⟨Af0.S, nM⟩, cM ⟨Aa2.cloS, nM⟩, nM⟩)
end Ae5
namespace Ae2
noncomputable def sig : Sig := ⟨[pL, qC, .rptr tI], [oB]⟩
noncomputable def cfg : Cfg := cf (cx [⟨48, Ae5.sig, Ae5.F⟩])
noncomputable def fin := finK cfg.c sig [.tmp 4]
noncomputable def F (d : LI × LL × Int × Unit) : OB := anyK (a8n cfg fin (bd f47) (a5S sig.ps d 13))
variable (f_1 : LI) (a_2 : LL) (a_3 : Int)
noncomputable def T : OB := if 0 ≤ (0 : Int) ∧ (0 : Int) ≤ a_3 ∧ a_3 ≤ (a_2.length : Int) then (Ae5.F (cutL a_2 (0 : Int) a_3, f_1, ())).bind fun r4 => some ((decide (r4.1.1 < 0), ()), ()) else none
theorem eq : F (f_1, a_2, a_3, ()) = T f_1 a_2 a_3 := eq_any fun k => by kernel_rfl
theorem S : a2u prog ⟨47, sig, F⟩ := sound_k (res := [.tmp 4]) func47 (cok (cM ⟨Ae5.S, nM⟩))
noncomputable def cloG (y : LL × Int × Unit) (d : LI × Unit) : Option (Bool × Unit) := (F (a9Q [.rptr tQ, .rptr tI] [(false, tL)] d y)).map (·.1)
noncomputable def clo : Clo := ⟨47, ⟨[(false, tL)], [(.val false, .bool, .deep)]⟩, [.rptr tQ, .rptr tI], cloG⟩
theorem cloS : a2Y prog clo := sound_clo (s := ⟨[(false, tL)], [(.val false, .bool, .deep)]⟩) (caps := [.rptr tQ, .rptr tI]) rfl S
end Ae2
namespace Aa9
noncomputable def sig : Sig := ⟨[pC], [oB]⟩
noncomputable def cfg : Cfg := cl (⟨a2U tabl, [⟨43, Ae3.sig, Ae3.F⟩, ⟨44, Aa2.sig, Aa2.F⟩, ⟨45, Ad7.sig, Ad7.F⟩, ⟨46, Ab0.sig, Ab0.F⟩], [Ae2.clo], [], [], []⟩) fun id => match id with | 2 => ([1, 6, 7, 8], [4]) | _ => ([], [])
noncomputable def fin := finK cfg.c sig [.tmp 2]
noncomputable def F (d : LL × Unit) : OB := anyK (a8n cfg fin (bd f26) (a5S sig.ps d 40))
variable (k : Nat) (x2 : LL) (i3 i4 : Int) (x5 : LL)
noncomputable def l2 : OB := Vm.runT cfg fin k [.inLoop (sub [1, 0, 1, 0, 0] (bd f26)), .inBlock 0, .code (sub [1, 1] (bd f26))] ⟨[dD, .ref 4 (.root 0), dD, dD, dD, dD, vQ x2, vI i3, vI i4] ++ a8v 31, [(4, ⟨true, [cQ x5]⟩)]⟩
theorem l2_eq : l2 (k + 1) x2 i3 i4 x5 = if (decide (i4 < i3)) = true then if 0 ≤ i4 ∧ i4 < (x2.length : Int) then (Ae3.F (x2.getD i4.toNat ([] : LI), ())).bind fun r6 => if (!r6.1.1) = true then some ((false, ()), ()) else if (decide (i4 > 0)) = true then if 0 ≤ (IntKind.i64.wrap (i4 - 1)) ∧ (IntKind.i64.wrap (i4 - 1)) < (x5.length : Int) then (Aa2.F (x5.getD (IntKind.i64.wrap (i4 - 1)).toNat ([] : LI), x2.getD i4.toNat ([] : LI), ())).bind fun r7 => if (decide (r7.1.1 ≥ 0)) = true then some ((false, ()), ()) else (Ab0.F (x2.getD i4.toNat ([] : LI), ())).bind fun r8 => (Ad7.F (r8.1.1, Ae2.cloG (x5, i4, ()), ())).bind fun r9 => if r9.1.1 = true then some ((false, ()), ()) else l2 k x2 i3 (IntKind.i64.wrap (i4 + 1)) x5 else none else (Ab0.F (x2.getD i4.toNat ([] : LI), ())).bind fun r10 => (Ad7.F (r10.1.1, Ae2.cloG (x5, i4, ()), ())).bind fun r11 => if r11.1.1 = true then some ((false, ()), ()) else l2 k x2 i3 (IntKind.i64.wrap (i4 + 1)) x5 else none else some ((decide ((x5.length : Int) ≤ 48), ()), ()) := by kernel_rfl
variable (c_1 : LL)
noncomputable def T : OB := l2 k c_1 (c_1.length : Int) (0 : Int) c_1
theorem of {r} (h : Ev (fun k => T k c_1) r) : F (c_1, ()) = some r := Ev.run (fun k => by kernel_rfl) h
theorem S : a2u prog ⟨26, sig, F⟩ := sound_k (res := [.tmp 2]) func26 (⟨nM, mixed_ok, tab_ok tab_good, cM ⟨Ae3.S, cM ⟨Aa2.S, cM ⟨Ad7.S, cM ⟨Ab0.S, nM⟩⟩⟩⟩, cM ⟨Ae2.cloS, nM⟩, nM⟩)
end Aa9
namespace Af1
noncomputable def sig : Sig := ⟨[pL], [oL]⟩
noncomputable def cfg : Cfg := cf (cx [])
noncomputable def fin := finK cfg.c sig [.tmp 2]
noncomputable def F (d : LI × Unit) : OL := anyK (a8n cfg fin (bd f88) (a5S sig.ps d 8))
variable (s_1 : LI)
noncomputable def T : OL := if 0 < s_1.length then if ([] : LI).length + s_1.length ≤ bigA then some ((([] : LI) ++ s_1, ()), ()) else none else both ( some (([], ()), ()) ) ( if ([] : LI).length + s_1.length ≤ bigA then some ((([] : LI) ++ s_1, ()), ()) else none )
theorem eq : F (s_1, ()) = T s_1 := eq_any fun k => by kernel_rfl
theorem S : a2u prog ⟨88, sig, F⟩ := sound_k (res := [.tmp 2]) func88 (cok nM)
end Af1
namespace Ac7
noncomputable def sig : Sig := ⟨[pQ], [oQ]⟩
noncomputable def cfg : Cfg := cl (cx [⟨88, Af1.sig, Af1.F⟩]) fun id => match id with | 3 => ([3, 6, 7, 8], [12]) | _ => ([], [])
noncomputable def fin := finK cfg.c sig [.tmp 2]
noncomputable def F (d : LL × Unit) : OQ := anyK (a8n cfg fin (bd f75) (a5S sig.ps d 19))
variable (k : Nat) (x2 : LL) (i3 i4 : Int) (x5 : LL)
noncomputable def l3 : OQ := Vm.runT cfg fin k [.inLoop (sub [1, 1, 0, 1, 0, 0] (bd f75)), .inBlock 0, .code (sub [1, 1, 1] (bd f75))] ⟨[dD, dD, dD, .view 12 (.root 0) 1 false, dD, dD, vQ x2, vI i3, vI i4] ++ a8v 10, [(12, ⟨false, [dQ x5]⟩)]⟩
theorem l3_eq : l3 (k + 1) x2 i3 i4 x5 = if (decide (i4 < i3)) = true then if 0 ≤ i4 ∧ i4 < (x2.length : Int) then (Af1.F (x2.getD i4.toNat ([] : LI), ())).bind fun r6 => if x5.length + [r6.1.1].length ≤ bigA then l3 k x2 i3 (IntKind.i64.wrap (i4 + 1)) (x5 ++ [r6.1.1]) else none else none else some ((x5, ()), ()) := by kernel_rfl
variable (lists_1 : LL)
noncomputable def T : OQ := l3 k lists_1 (lists_1.length : Int) (0 : Int) ([])
theorem of {r} (h : Ev (fun k => T k lists_1) r) : F (lists_1, ()) = some r := Ev.run (fun k => by kernel_rfl) h
theorem S : a2u prog ⟨75, sig, F⟩ := sound_k (res := [.tmp 2]) func75 (cok (cM ⟨Af1.S, nM⟩))
end Ac7
namespace Af6
noncomputable def sig : Sig := sortS
noncomputable def F (d : LL × ((LI × LI × Unit) → Option (Int × Unit)) × Unit) : Option ((Unit) × (LL × Unit)) := sortF ordS d
def ren : Go.Shelf.Ren := ⟨fun | 6 => 76 | 14 => 89 | 15 => 90 | 20 => 95 | 21 => 96 | 22 => 97 | 23 => 98 | 24 => 99 | 25 => 100 | 26 => 101 | 27 => 102 | 28 => 103 | 29 => 104 | 46 => 106 | 47 => 107 | 48 => 108 | 49 => 109 | 50 => 110 | 57 => 120 | n => n, fun | 0 => 0 | 3 => 3 | 4 => 4 | 5 => 5 | 9 => 9 | 22 => 22 | 24 => 31 | 25 => 55 | 39 => 86 | 45 => 92 | 46 => 93 | 50 => 72 | 53 => 99 | 55 => 101 | 66 => 103 | 70 => 107 | 76 => 115 | 77 => 116 | n => n, fun n => n⟩
theorem lays : Go.Proofs.SlLaysF.n6 prog ren where
  mixed := by kernel_rfl
  f6 := ⟨"slices.SortFunc[[][]int64,[]int64]", by decide, func76.trans (congrArg some (by kernel_rfl))⟩
  f14 := ⟨"slices.pdqsortCmpFunc[[]int64]", by decide, func89.trans (congrArg some (by kernel_rfl))⟩
  f15 := func90.trans (congrArg some (by kernel_rfl))
  f20 := ⟨"slices.insertionSortCmpFunc[[]int64]", by decide, func95.trans (congrArg some (by kernel_rfl))⟩
  f21 := ⟨"slices.heapSortCmpFunc[[]int64]", by decide, func96.trans (congrArg some (by kernel_rfl))⟩
  f22 := ⟨"slices.breakPatternsCmpFunc[[]int64]", by decide, func97.trans (congrArg some (by kernel_rfl))⟩
  f23 := ⟨"slices.choosePivotCmpFunc[[]int64]", by decide, func98.trans (congrArg some (by kernel_rfl))⟩
  f24 := ⟨"slices.reverseRangeCmpFunc[[]int64]", by decide, func99.trans (congrArg some (by kernel_rfl))⟩
  f25 := ⟨"slices.partialInsertionSortCmpFunc[[]int64]", by decide, func100.trans (congrArg some (by kernel_rfl))⟩
  f26 := ⟨"slices.partitionEqualCmpFunc[[]int64]", by decide, func101.trans (congrArg some (by kernel_rfl))⟩
  f27 := ⟨"slices.partitionCmpFunc[[]int64]", by decide, func102.trans (congrArg some (by kernel_rfl))⟩
  f28 := func103.trans (congrArg some (by kernel_rfl))
  f29 := func104.trans (congrArg some (by kernel_rfl))
  f46 := ⟨"slices.siftDownCmpFunc[[]int64]", by decide, func106.trans (congrArg some (by kernel_rfl))⟩
  f47 := func107.trans (congrArg some (by kernel_rfl))
  f48 := func108.trans (congrArg some (by kernel_rfl))
  f49 := ⟨"slices.medianAdjacentCmpFunc[[]int64]", by decide, func109.trans (congrArg some (by kernel_rfl))⟩
  f50 := ⟨"slices.medianCmpFunc[[]int64]", by decide, func110.trans (congrArg some (by kernel_rfl))⟩
  f57 := ⟨"slices.order2CmpFunc[[]int64]", by decide, func120.trans (congrArg some (by kernel_rfl))⟩
  t0 := underlying0
  a0 := isAgg0
  z0 := sizeOf0
  v0 := zeroValue0
  t3 := underlying3
  a3 := isAgg3
  z3 := sizeOf3
  v3 := zeroValue3
  t4 := underlying4
  a4 := isAgg4
  z4 := sizeOf4
  v4 := zeroValue4
  t5 := underlying5
  a5 := isAgg5
  z5 := sizeOf5
  v5 := zeroValue5
  t9 := underlying9
  a9 := isAgg9
  z9 := sizeOf9
  v9 := zeroValue9
  t22 := underlying22
  a22 := isAgg22
  z22 := sizeOf22
  v22 := zeroValue22
  a24 := isAgg31
  z24 := sizeOf31
  t25 := underlying55
  a25 := isAgg55
  z25 := sizeOf55
  v25 := zeroValue55
  t39 := underlying86
  a39 := isAgg86
  z39 := sizeOf86
  v39 := zeroValue86
  t45 := underlying92
  a45 := isAgg92
  z45 := sizeOf92
  v45 := zeroValue92
  t46 := underlying93
  a46 := isAgg93
  z46 := sizeOf93
  v46 := zeroValue93
  t50 := underlying72
  a50 := isAgg72
  z50 := sizeOf72
  v50 := zeroValue72
  t53 := underlying99
  a53 := isAgg99
  z53 := sizeOf99
  v53 := zeroValue99
  t55 := underlying101
  a55 := isAgg101
  z55 := sizeOf101
  v55 := zeroValue101
  t66 := underlying103
  a66 := isAgg103
  z66 := sizeOf103
  v66 := zeroValue103
  t70 := underlying107
  a70 := isAgg107
  z70 := sizeOf107
  v70 := zeroValue107
  t76 := underlying115
  a76 := isAgg115
  z76 := sizeOf115
  v76 := zeroValue115
  t77 := underlying116
  a77 := isAgg116
  z77 := sizeOf116
  v77 := zeroValue116
theorem S : a2u prog ⟨76, sig, F⟩ := sort_sound lays ordS_swo ordS_tot
end Af6
namespace Af5
noncomputable def sig : Sig := compS
noncomputable def F (d : LL × ((LI × LI × Unit) → Option (Bool × Unit)) × Unit) : OQ := compF d
theorem emp (p : Option Addr) (cap : Nat) (fv : Value) (w : World) : Calls prog 77 #[.slice p 0 cap, fv] w fun e w' => e = .returned (.slice p 0 cap) ∧ w' = w := by
  go_enter func77, ntmps77
  go_wp2
  go_ret
  exact ⟨rfl, rfl⟩
open Go.Proofs Go.Shelf Go.RowKit Go.Lib Go.Sort in
set_option maxHeartbeats 16000000 in
set_option maxRecDepth 1000000 in
theorem walk {α : Type} [Inhabited α] (enc : α → Value) (hO : OneCell enc) (eq : α → α → Bool) (zr : α) (hz : enc zr = .slice none 0 0) (g : Nat) (cb : Array Value) (eg : ∀ args w, (callFunc g args).run prog w = .ok (.enter g args) w)
    (blk off cap : Nat) (d : Array α) (w : World) (hcmp : a9B prog g cb enc eq blk off d.size w) (hH : Holds enc w blk off d) (hblk : blk < w.heap.size) (hsz : d.size < 4611686018427387904) (hcap : d.size ≤ cap) (kp : Nat → Bool) (hkp0 : kp 0 = true) (hkp : ∀ j, 0 < j → kp j = !(eq d[j]! d[j - 1]!)) :
    Calls prog 77 #[.slice (some ⟨blk, off, none⟩) d.size cap, .func (.func g) #[] cb] w fun e w' => e = .returned (.slice (some ⟨blk, off, none⟩) (keptUpTo kp d d.size).length cap) ∧ SW enc w blk off (keptUpTo kp d d.size ++ List.replicate (d.size - (keptUpTo kp d d.size).length) zr).toArray w' := by
  have mixed : prog.follows .mixedOrders = true := mixed_ok
  have hcl0 := hO.cells
  simp only [Value.cells] at hcl0
  have hst := hO.store prog
  have R : Row1 enc w blk off d := ⟨hO, hH, hblk⟩
  have HC : Aside (a9B prog g cb enc eq blk off d.size w) := hcmp
  have S0 : Aside (SW enc w blk off d w) := SW.start hH
  have same : ∀ W, SW enc w blk off d W → (∀ j, j < d.size → kp j = true) → (keptUpTo kp d d.size).length = d.size ∧ SW enc w blk off (keptUpTo kp d d.size ++ List.replicate (d.size - (keptUpTo kp d d.size).length) zr).toArray W := by
    intro W hW hall
    have e : keptUpTo kp d d.size = d.toList := by rw [keptUpTo_all kp d _ hall, range_map_get]
    rw [e]
    refine ⟨by simp, ?_⟩
    simpa using hW
  have HS : Aside _ := same
  have K0 : Aside (kp 0 = true) := hkp0
  have K1 : Aside (∀ j, 0 < j → kp j = !(eq d[j]! d[j - 1]!)) := hkp
  clear hcmp same hkp0 hkp hH
  by_cases h2 : d.size < 2
  · go_enter func77, ntmps77
    go_wp2
    go_ret
    obtain ⟨e1, e2⟩ := HS.out _ S0.out (fun j hj => by
      have : j = 0 := by omega
      rw [this]; exact K0.out)
    exact ⟨by rw [e1]; rfl, e2⟩
  · go_enter func77, ntmps77
    go_wp2
    go_loopg [5] d.size (fun g1 s5 wr => ∃ k : Nat, s5 = .int .i64 k ∧ 1 ≤ k ∧ k ≤ d.size ∧ d.size - k ≤ g1 ∧ Aside (SW enc w blk off d wr) ∧ Hid (∀ j, j < k → kp j = true))
    case atStart => exact ⟨1, rfl, Nat.le_refl _, by omega, by omega, S0, fun j hj => by
      have : j = 0 := by omega
      rw [this]; exact K0.out⟩
    case round =>
      clear S0
      obtain ⟨k, rfl, hk1, hk, hg1, S1, HA⟩ := hrel
      by_cases hlt : k < d.size
      · have hltz : (k : Int) < (d.size : Int) := by omega
        obtain ⟨kq, hkq⟩ : ∃ q, q + 1 = k := ⟨k - 1, by omega⟩
        have zk : (k : Int) = (kq : Int) + 1 := by omega
        obtain ⟨iN, hiN⟩ : ∃ q, q = k := ⟨_, rfl⟩
        obtain ⟨jN, hjN⟩ : ∃ q, q = k - 1 := ⟨_, rfl⟩
        have ea : ((kq : Int) + 1).toNat = iN := by omega
        have pa : (0 : Int) ≤ (kq : Int) + 1 := by omega
        have ba : (kq : Int) + 1 < (d.size : Int) := by omega
        have ra : IntKind.i64.wrap ((kq : Int) + 1) = (kq : Int) + 1 := by rw [IntKind.wrap_i64]; omega
        have ec : ((kq : Int)).toNat = jN := by omega
        have pc : (0 : Int) ≤ (kq : Int) := by omega
        have bc : (kq : Int) < (d.size : Int) := by omega
        have rc : IntKind.i64.wrap ((kq : Int)) = (kq : Int) := by rw [IntKind.wrap_i64]; omega
        obtain ⟨x, hx⟩ : ∃ x, x = d[k]! := ⟨_, rfl⟩
        obtain ⟨y, hy⟩ : ∃ x, x = d[k - 1]! := ⟨_, rfl⟩
        have la := S1.out.cl R rfl k (by omega)
        have lb := S1.out.cl R rfl (k - 1) (by omega)
        rw [← hx, ← hiN] at la
        rw [← hy, ← hjN] at lb
        have hc := sw_eql S1.out HC.out rfl x y
        have KK : Aside (kp k = !(eq x y)) := by rw [hx, hy]; exact K1.out k (by omega)
        clear hx hy hiN hjN
        cases hv : eq x y with
        | true =>
          rw [hv] at hc KK
          go_wp2_with fail
          go_quiet_grown (first | (go_at_fn g; refine Calls.grown_of (hc _ _)))
          have S2 : Aside (SW enc w blk off d (grow (wr.drewN nq) osq)) := S1.out.grown nq osq
          clear la lb hc S1
          generalize grow (wr.drewN nq) osq = w2 at S2 ⊢
          clear nq osq
          clear ea ec pa ba ra pc bc rc
          have hzk : (kq : Int) + 1 = (k : Int) := by omega
          clear zk hkq
          simp only [hzk]
          clear hzk
          go_wp2
          go_loopg [5, 7] d.size (fun g2 s5 s7 wr2 => ∃ (kk k2 : Nat) (dk : Array α), s5 = .int .i64 kk ∧ s7 = .int .i64 k2 ∧ 1 ≤ k2 ∧ k + k2 ≤ d.size ∧ d.size - (k + k2) ≤ g2 ∧ Aside (SW enc w blk off dk wr2) ∧ Aside (KeptInv kp d (k + k2) kk dk))
          case atStart => exact ⟨k, 1, d, rfl, rfl, Nat.le_refl _, by omega, by omega, S2, KeptInv.start HA.out (by rw [KK.out]; rfl)⟩
          case round =>
            clear S2 KK HA
            obtain ⟨kk, k2, dk, rfl, rfl, h1, hle, hg2, S3, I2⟩ := hrel
            have hkk := I2.out.lt
            have hds := I2.out.size
            by_cases hlt2 : k + k2 < d.size
            · obtain ⟨kq, hkq⟩ : ∃ q, q + 1 = k2 := ⟨k2 - 1, by omega⟩
              have zk : (k2 : Int) = (kq : Int) + 1 := by omega
              obtain ⟨iN, hiN⟩ : ∃ q, q = k2 := ⟨_, rfl⟩
              obtain ⟨jN, hjN⟩ : ∃ q, q = k2 - 1 := ⟨_, rfl⟩
              have ea : ((kq : Int) + 1).toNat = iN := by omega
              have pa : (0 : Int) ≤ (kq : Int) + 1 := by omega
              have ba : (kq : Int) + 1 < ((d.size - k : Nat) : Int) := by omega
              have ra : IntKind.i64.wrap ((kq : Int) + 1) = (kq : Int) + 1 := by rw [IntKind.wrap_i64]; omega
              have ec : ((kq : Int)).toNat = jN := by omega
              have pc : (0 : Int) ≤ (kq : Int) := by omega
              have bc : (kq : Int) < ((d.size - k : Nat) : Int) := by omega
              have rc : IntKind.i64.wrap ((kq : Int)) = (kq : Int) := by rw [IntKind.wrap_i64]; omega
              obtain ⟨x, hx⟩ : ∃ x, x = d[k + k2]! := ⟨_, rfl⟩
              obtain ⟨y, hy⟩ : ∃ x, x = d[k + k2 - 1]! := ⟨_, rfl⟩
              have la := S3.out.cl R hds (k + k2) (by omega)
              have lb := S3.out.cl R hds (k + k2 - 1) (by omega)
              rw [I2.out.high (k + k2) (by omega), ← hx, show off + (k + k2) = off + k + iN by omega] at la
              rw [I2.out.high (k + k2 - 1) (by omega), ← hy, show off + (k + k2 - 1) = off + k + jN by omega] at lb
              have hc := sw_eql S3.out HC.out hds x y
              have KK : Aside (kp (k + k2) = !(eq x y)) := by rw [hx, hy]; exact K1.out (k + k2) (by omega)
              have XX : Aside (x = d[k + k2]!) := hx
              clear hx hy hiN hjN
              cases hv : eq x y with
              | true =>
                rw [hv] at hc KK
                go_wp2_with fail
                go_quiet_grown (first | (go_at_fn g; refine Calls.grown_of (hc _ _)))
                have S2 : Aside (SW enc w blk off dk (grow (wr.drewN nq) osq)) := S3.out.grown nq osq
                clear la lb hc S3
                generalize grow (wr.drewN nq) osq = w2 at S2 ⊢
                clear nq osq
                clear ea ec
                go_wp2
                go_roundg (d.size - (k + (k2 + 1)))
                case measure => omega
                case rel => exact ⟨kk, k2 + 1, dk, rfl, by go_num, by omega, by omega, Nat.le_refl _, S2, I2.out.skip (by rw [KK.out]; rfl)⟩
              | false =>
                rw [hv] at hc KK
                go_wp2_with fail
                go_quiet_grown (first | (go_at_fn g; refine Calls.grown_of (hc _ _)))
                have S2 : Aside (SW enc w blk off dk (grow (wr.drewN nq) osq)) := S3.out.grown nq osq
                clear la lb hc S3
                generalize grow (wr.drewN nq) osq = w2 at S2 ⊢
                clear nq osq
                clear ea ec pa ba ra pc bc rc
                have hzk : (kq : Int) + 1 = (k2 : Int) := by omega
                clear zk hkq
                simp only [hzk]
                clear hzk
                have cm := S2.out.c1 R hds (k + k2) (by omega)
                have ck := S2.out.c1 R hds kk (by omega)
                have fk := S2.out.f1 R hds kk (by omega)
                rw [I2.out.high (k + k2) (by omega), ← XX.out, show off + (k + k2) = off + k + k2 by omega] at cm
                generalize dk[kk]! = old at ck
                have hlz : (k2 : Int) < ((d.size - k : Nat) : Int) := by omega
                go_wp2
                go_roundg (d.size - (k + (k2 + 1)))
                case measure => omega
                case rel => exact ⟨kk + 1, k2 + 1, dk.setIfInBounds kk x, by go_num, by go_num, by omega, by omega, Nat.le_refl _, sw_set S2.out hblk kk x (by omega), (by have := I2.out.keep hlt2 (by rw [KK.out]; rfl); rwa [← XX.out] at this)⟩
            · have hend : k + k2 = d.size := by omega
              have hcl : ∀ ty, (Builtin.clear_ #[22] ty #[.slice (some ⟨blk, off + kk, none⟩) (d.size - kk) (cap - kk)]).run prog wr = .ok (.tuple #[]) (wr.setCells blk (off + kk) (List.replicate (d.size - kk) (enc zr))) :=
                fun ty => Lib.run_clear_slice wr _ _ ty _ underlying22 (fun w => by rw [hz]; exact zeroValue31 w) (hO.cells zr) (hO zr) blk (off + kk) _ _ (by omega) (fun j hj => by rw [show off + kk + j = off + (kk + j) by omega, S3.out.c1 R hds (kk + j) (by omega)]; rfl) (fun j hj => by rw [show off + kk + j = off + (kk + j) by omega]; exact S3.out.f1 R hds (kk + j) (by omega))
              go_wp2
              go_ret
              have hI := I2.out
              rw [hend] at hI
              refine ⟨by rw [hI.len]; rfl, ?_⟩
              rw [hI.len, ← hI.done zr]
              have := sw_lay hblk (List.replicate (d.size - kk) zr) dk _ kk S3.out (by simp; omega)
              rw [List.map_replicate, hz] at this
              exact this
        | false =>
          rw [hv] at hc KK
          go_wp2_with fail
          go_quiet_grown (first | (go_at_fn g; refine Calls.grown_of (hc _ _)))
          have S2 : Aside (SW enc w blk off d (grow (wr.drewN nq) osq)) := S1.out.grown nq osq
          clear la lb hc S1
          generalize grow (wr.drewN nq) osq = w2 at S2 ⊢
          clear nq osq
          clear ea ec
          go_wp2
          go_roundg (d.size - (k + 1))
          case measure => omega
          case rel =>
            refine ⟨k + 1, by go_num, by omega, by omega, Nat.le_refl _, S2, fun j hj => ?_⟩
            by_cases e : j = k
            · subst e; exact KK.out
            · exact HA.out j (by omega)
      · have : k = d.size := by omega
        subst this
        go_wp2
        go_ret
        obtain ⟨e1, e2⟩ := HS.out _ S1.out HA.out
        exact ⟨by rw [e1]; rfl, e2⟩
theorem S : a2u prog ⟨77, sig, F⟩ := comp_sound ⟨⟨_, func77, by kernel_rfl, by kernel_rfl⟩, emp, walk⟩
end Af5
namespace Ab4
noncomputable def sig : Sig := ⟨[pL, pL], [oB]⟩
noncomputable def cfg : Cfg := cl (cx []) fun id => match id with | 4 => ([0, 1, 12, 13], []) | _ => ([], [])
noncomputable def fin := finK cfg.c sig [.tmp 4]
noncomputable def F (d : LI × LI × Unit) : OB := anyK (a8n cfg fin (bd f74) (a5S sig.ps d 26))
variable (k : Nat) (x3 x4 : LI) (i5 i6 : Int)
noncomputable def l4 : OB := Vm.runT cfg fin k [.inLoop (sub [1, 1, 0, 1, 0, 0] (bd f74)), .inBlock 0, .code (sub [1, 1, 1] (bd f74))] ⟨[vL x3, vL x4, dD, dD, dD, dD, dD, dD, dD, dD, dD, dD, vI i5, vI i6] ++ a8v 12, []⟩
theorem l4_eq : l4 (k + 1) x3 x4 i5 i6 = if (decide (i6 < i5)) = true then if 0 ≤ i6 ∧ i6 < (x3.length : Int) then if 0 ≤ i6 ∧ i6 < (x4.length : Int) then if ((x3.getD i6.toNat 0 : Int) != (x4.getD i6.toNat 0 : Int)) = true then some ((false, ()), ()) else l4 k x3 x4 i5 (IntKind.i64.wrap (i6 + 1)) else none else none else some ((true, ()), ()) := by kernel_rfl
variable (s1_1 s2_2 : LI)
noncomputable def T : OB := if ((s1_1.length : Int) != (s2_2.length : Int)) = true then some ((false, ()), ()) else l4 k s1_1 s2_2 (s1_1.length : Int) (0 : Int)
theorem of {r} (h : Ev (fun k => T k s1_1 s2_2) r) : F (s1_1, s2_2, ()) = some r := Ev.run (fun k => by kernel_rfl) h
theorem S : a2u prog ⟨74, sig, F⟩ := sound_k (res := [.tmp 4]) func74 (cok nM)
noncomputable def cloG (y : Unit) (d : LI × LI × Unit) : Option (Bool × Unit) := (F (a9Q [] [(false, tL), (false, tL)] d y)).map (·.1)
noncomputable def clo : Clo := ⟨74, ⟨[(false, tL), (false, tL)], [(.val false, .bool, .deep)]⟩, [], cloG⟩
theorem cloS : a2Y prog clo := sound_clo (s := ⟨[(false, tL), (false, tL)], [(.val false, .bool, .deep)]⟩) (caps := []) rfl S
end Ab4
namespace Ae4
noncomputable def sig : Sig := ⟨[pQ], [oC]⟩
noncomputable def cfg : Cfg := cf ⟨a2U tabl, [⟨75, Ac7.sig, Ac7.F⟩, ⟨76, Af6.sig, Af6.F⟩, ⟨77, Af5.sig, Af5.F⟩], [Aa2.clo, Ab4.clo], [], [], []⟩
noncomputable def fin := finK cfg.c sig [.cell 2 27]
noncomputable def F (d : LL × Unit) : OQ := anyK (a8n cfg fin (bd f50) (a5S sig.ps d 11))
variable (list_1 : LL)
noncomputable def T : OQ := (Ac7.F (list_1, ())).bind fun r2 => (Af6.F (r2.1.1, Aa2.cloG (()), ())).bind fun r3 => (Af5.F (r3.2.1, Ab4.cloG (()), ())).bind fun r4 => some ((r4.1.1, ()), ())
theorem eq : F (list_1, ()) = T list_1 := eq_any fun k => by kernel_rfl
theorem S : a2u prog ⟨50, sig, F⟩ := sound_k (res := [.cell 2 27]) func50 (⟨nM, mixed_ok, tab_ok tab_good, cM ⟨Ac7.S, cM ⟨Af6.S, cM ⟨Af5.S, nM⟩⟩⟩, cM ⟨Aa2.cloS, cM ⟨Ab4.cloS, nM⟩⟩, nM⟩)
end Ae4
namespace Ab1
noncomputable def sig : Sig := ⟨[.val false (.sl tQ)], [(.val false, tQ, .shal)]⟩
noncomputable def cfg : Cfg := ⟨⟨a2U tabl, [], [], [], [(78, tL)], []⟩, [], [], fun id => match id with | 3 => ([0, 3, 9, 10, 11], []) | 11 => ([6, 25, 26, 27], [24]) | _ => ([], []), fun id => match id with | 11 => [24] | _ => []⟩
noncomputable def fin := finK cfg.c sig [.tmp 2]
noncomputable def F (d : List LL × Unit) : OQ := anyK (a8n cfg fin (bd f51) (a5S sig.ps d 36))
variable (k : Nat) (x2 : List LL) (i3 : Int) (x4 : List LL) (i5 i6 : Int)
noncomputable def l3 : OQ := Vm.runT cfg fin k [.inLoop (sub [1, 1, 0, 1, 0, 0] (bd f51)), .inBlock 0, .code (sub [1, 1, 1] (bd f51))] ⟨[.val false [⟨(.sl tQ), .sh, x2⟩], dD, dD, vI i3, dD, dD, dD, dD, dD, .val false [⟨(.sl tQ), .sh, x4⟩], vI i5, vI i6] ++ a8v 24, []⟩
variable (x7 : List LL) (i8 i9 : Int) (x10 : LL)
noncomputable def l11 : OQ := Vm.runT cfg fin k [.inLoop (sub [1, 1, 1, 1, 0, 1, 0, 0] (bd f51)), .inBlock 2, .code (sub [1, 1, 1, 1, 1] (bd f51))] ⟨[dD, dD, dD, dD, dD, dD, .view 24 (.root 0) 1 false, dD, dD, dD, dD, dD, dD, dD, dD, dD, dD, dD, dD, dD, dD, dD, dD, dD, dD, .val false [⟨(.sl tQ), .sh, x7⟩], vI i8, vI i9] ++ a8v 8, [(24, ⟨false, [⟨tQ, .shal, x10⟩]⟩)]⟩
theorem l3_eq : l3 (k + 1) x2 i3 x4 i5 i6 = if (decide (i6 < i5)) = true then if 0 ≤ i6 ∧ i6 < (x4.length : Int) then if (decide ((IntKind.i64.wrap (i3 + ((x4.getD i6.toNat ([] : LL)).length : Int))) < 0)) = true then none else l3 k x2 (IntKind.i64.wrap (i3 + ((x4.getD i6.toNat ([] : LL)).length : Int))) x4 i5 (IntKind.i64.wrap (i6 + 1)) else none else if 0 ≤ i3 ∧ i3 ≤ (bigN : Int) then l11 k x2 (x2.length : Int) (0 : Int) ([] : LL) else none := by kernel_rfl
theorem l11_eq : l11 (k + 1) x7 i8 i9 x10 = if (decide (i9 < i8)) = true then if 0 ≤ i9 ∧ i9 < (x7.length : Int) then if x10.length + (x7.getD i9.toNat ([] : LL)).length ≤ bigA then l11 k x7 i8 (IntKind.i64.wrap (i9 + 1)) (x10 ++ (x7.getD i9.toNat ([] : LL))) else none else none else some ((x10, ()), ()) := by kernel_rfl
variable (slices_1 : List LL)
noncomputable def T : OQ := l3 k slices_1 (0 : Int) slices_1 (slices_1.length : Int) (0 : Int)
theorem of {r} (h : Ev (fun k => T k slices_1) r) : F (slices_1, ()) = some r := Ev.run (fun k => by kernel_rfl) h
theorem S : a2u prog ⟨51, sig, F⟩ := sound_k (res := [.tmp 2]) func51 (⟨nM, mixed_ok, tab_ok tab_good, nM, nM, cM ⟨slices_Grow_LLint64_Lint64.growOK, nM⟩⟩)
end Ab1
namespace Ae6
noncomputable def sig : Sig := ⟨[pC, pC], [oC]⟩
noncomputable def cfg : Cfg := cf (cx [⟨50, Ae4.sig, Ae4.F⟩, ⟨51, Ab1.sig, Ab1.F⟩])
noncomputable def fin := finK cfg.c sig [.cell 4 27]
noncomputable def F (d : LL × LL × Unit) : OQ := anyK (a8n cfg fin (bd f28) (a5S sig.ps d 12))
variable (a_1 b_2 : LL)
noncomputable def T : OQ := (Ab1.F ([a_1, b_2], ())).bind fun r3 => (Ae4.F (r3.1.1, ())).bind fun r4 => some ((r4.1.1, ()), ())
theorem eq : F (a_1, b_2, ()) = T a_1 b_2 := eq_any fun k => by kernel_rfl
theorem S : a2u prog ⟨28, sig, F⟩ := sound_k (res := [.cell 4 27]) func28 (cok (cM ⟨Ae4.S, cM ⟨Ab1.S, nM⟩⟩))
end Ae6
namespace Ad6
noncomputable def sig : Sig := ⟨[pC, pC], [oC, oI]⟩
noncomputable def cfg : Cfg := cf (cx [⟨26, Aa9.sig, Aa9.F⟩, ⟨28, Ae6.sig, Ae6.F⟩])
noncomputable def fin := finK cfg.c sig [.cell 4 27, .tmp 5]
noncomputable def F (d : LL × LL × Unit) : Option ((LL × Int × Unit) × (Unit)) := anyK (a8n cfg fin (bd f21) (a5S sig.ps d 25))
variable (a_1 b_2 : LL)
noncomputable def T : Option ((LL × Int × Unit) × (Unit)) := (Aa9.F (a_1, ())).bind fun r3 => if (!r3.1.1) = true then some (([], ((1 : Int), ())), ()) else (Aa9.F (b_2, ())).bind fun r4 => if (!r4.1.1) = true then some (([], ((1 : Int), ())), ()) else (Ae6.F (a_1, b_2, ())).bind fun r5 => if (decide ((r5.1.1.length : Int) > 48)) = true then some (([], ((5 : Int), ())), ()) else some ((r5.1.1, ((0 : Int), ())), ())
theorem eq : F (a_1, b_2, ()) = T a_1 b_2 := eq_any fun k => by kernel_rfl
theorem S : a2u prog ⟨21, sig, F⟩ := sound_k (res := [.cell 4 27, .tmp 5]) func21 (cok (cM ⟨Aa9.S, cM ⟨Ae6.S, nM⟩⟩))
end Ad6
namespace Af4
noncomputable def sig : Sig := ⟨[pC, pC], [oB]⟩
noncomputable def cfg : Cfg := cf ⟨a2U tabl, [⟨7, Ad1.sig, Ad1.F⟩, ⟨9, Aa4.sig, Aa4.F⟩, ⟨11, Ab3.sig, Ab3.F⟩, ⟨18, Aa6.sig, Aa6.F⟩, ⟨19, Ae8.sig, Ae8.F⟩, ⟨20, Aa7.sig, Aa7.F⟩, ⟨21, Ad6.sig, Ad6.F⟩, ⟨9, Aa4.sigF, Aa4.F⟩], [], [], [], [29, 31]⟩
noncomputable def fin := finK cfg.c sig [.tmp 4]
noncomputable def F (d : LL × LL × Unit) : OB := anyK (a8n cfg fin (bd f6) (a5S sig.ps d 119))
variable (toArray_1 a_2 : LL)
noncomputable def T : OB := (Ad1.F (toArray_1, (1048576 : Int), ())).bind fun r3 => if (decide (r3.1.1 < 0)) = true then some ((true, ()), ()) else (Ad1.F (a_2, r3.1.1, ())).bind fun r4 => if (decide (r4.1.1 < 0)) = true then some ((true, ()), ()) else (Aa4.F (toArray_1, ())).bind fun r5 => (Aa4.F (a_2, ())).bind fun r6 => (Aa7.F (r5.1.1, r6.1.1, ())).bind fun r7 => (Aa4.F (toArray_1, ())).bind fun r8 => (Aa4.F (a_2, ())).bind fun r9 => (Ad6.F (r8.1.1, r9.1.1, ())).bind fun r10 => (Ab3.F (r10.1.1, r7.1.1, ())).bind fun r11 => if (!r11.1.1) = true then some ((false, ()), ()) else if (r10.1.2.1 != r7.1.2.1) = true then some ((false, ()), ()) else (Aa4.F (toArray_1, ())).bind fun r12 => (Ab3.F (r8.1.1, r12.1.1, ())).bind fun r13 => if (!r13.1.1) = true then some ((false, ()), ()) else (Aa4.F (a_2, ())).bind fun r14 => (Ab3.F (r9.1.1, r14.1.1, ())).bind fun r15 => if (!r15.1.1) = true then some ((false, ()), ()) else (Aa6.F (r8.1.1, (1 : Int), ())).bind fun r16 => (Aa6.F (r9.1.1, r16.1.1, ())).bind fun r17 => if (decide (r17.1.1 < 0)) = true then some ((false, ()), ()) else (Ab3.F (r10.1.1, r7.1.1, ())).bind fun r18 => if (!r18.1.1) = true then some ((false, ()), ()) else if (r10.1.2.1 != r7.1.2.1) = true then some ((false, ()), ()) else (Aa6.F (r10.1.1, (1 : Int), ())).bind fun r19 => (Ae8.F (r19.2.1, (1 : Int), ())).bind fun r20 => if (decide (r20.1.1 < 0)) = true then some ((false, ()), ()) else if (r20.1.1 != r19.1.1) = true then some ((false, ()), ()) else (Aa4.F (toArray_1, ())).bind fun r21 => (Aa4.F (a_2, ())).bind fun r22 => (Ad6.F (r21.1.1, r22.1.1, ())).bind fun r23 => (Ab3.F (r23.1.1, r7.1.1, ())).bind fun r24 => if (!r24.1.1) = true then some ((false, ()), ()) else if (r23.1.2.1 != r7.1.2.1) = true then some ((false, ()), ()) else (Ae8.F (r19.2.1, (1 : Int), ())).bind fun r25 => if (decide (r25.1.1 < 0)) = true then some ((false, ()), ()) else if (r25.1.1 != r19.1.1) = true then some ((false, ()), ()) else some ((true, ()), ())
theorem eq : F (toArray_1, a_2, ()) = T toArray_1 a_2 := eq_any fun k => by kernel_rfl
theorem S : a2u prog ⟨6, sig, F⟩ := sound_k (res := [.tmp 4]) func6 (⟨nM, mixed_ok, tab_ok tab_good, cM ⟨Ad1.S, cM ⟨Aa4.S, cM ⟨Ab3.S, cM ⟨Aa6.S, cM ⟨Ae8.S, cM ⟨Aa7.S, cM ⟨Ad6.S, cM ⟨Aa4.SF, nM⟩⟩⟩⟩⟩⟩⟩⟩, nM, nM⟩)
end Af4
end Go.Proofs.Ytahkpjebkelmfaa
