/- The functions, as the machine runs them. -/
import Derived.Test.YtjimdbbeilfkfaaGreatRescaleSheafG1
import Derived.Test.YtjimdbbeilfkfaaGreatProg
import Derived.KernelRfl
import Derived.WalkKit
import Derived.Lib.Walk
import Derived.Lib.AppendZeros
import Derived.Sort.WalkA
import Derived.Sort.WalkB2
import Derived.Sort.WalkB12
import Derived.Deep.LoopGhost
import Derived.Shelf.RegionOpenPlain
import Derived.Lib.SliceRun
namespace Go.Proofs.YtjimdbbeilfkfaaGreat
open Go Go.Vm
set_option linter.unusedVariables false
set_option linter.unusedSimpArgs false
open Go.Proofs.Tryz
namespace slices_SortFunc_LLint64_Lint64
noncomputable def sig : Sig := sortS
noncomputable def F (d : List (List Int) × ((List Int × List Int × Unit) → Option (Int × Unit)) × Unit) : Option ((Unit) × (List (List Int) × Unit)) := sortF ordS d
def ren : Go.Shelf.Ren := ⟨fun | 6 => 257 | 14 => 289 | 15 => 288 | 20 => 306 | 21 => 307 | 22 => 308 | 23 => 309 | 24 => 310 | 25 => 311 | 26 => 312 | 27 => 313 | 28 => 304 | 29 => 305 | 46 => 321 | 47 => 317 | 48 => 318 | 49 => 322 | 50 => 323 | 57 => 325 | n => n, fun | 0 => 0 | 3 => 3 | 4 => 4 | 5 => 5 | 9 => 9 | 22 => 22 | 24 => 25 | 25 => 189 | 39 => 235 | 45 => 246 | 46 => 247 | 50 => 193 | 53 => 253 | 55 => 255 | 66 => 262 | 70 => 266 | 76 => 270 | 77 => 271 | n => n, fun n => n⟩
theorem lays : Go.Proofs.SlLaysF.n6 prog ren where
  mixed := by kernel_rfl
  f6 := ⟨"slices.SortFunc[[][]int64,[]int64]", by decide, func257.trans (congrArg some (by kernel_rfl))⟩
  f14 := ⟨"slices.pdqsortCmpFunc[[]int64]", by decide, func289.trans (congrArg some (by kernel_rfl))⟩
  f15 := func288.trans (congrArg some (by kernel_rfl))
  f20 := ⟨"slices.insertionSortCmpFunc[[]int64]", by decide, func306.trans (congrArg some (by kernel_rfl))⟩
  f21 := ⟨"slices.heapSortCmpFunc[[]int64]", by decide, func307.trans (congrArg some (by kernel_rfl))⟩
  f22 := ⟨"slices.breakPatternsCmpFunc[[]int64]", by decide, func308.trans (congrArg some (by kernel_rfl))⟩
  f23 := ⟨"slices.choosePivotCmpFunc[[]int64]", by decide, func309.trans (congrArg some (by kernel_rfl))⟩
  f24 := ⟨"slices.reverseRangeCmpFunc[[]int64]", by decide, func310.trans (congrArg some (by kernel_rfl))⟩
  f25 := ⟨"slices.partialInsertionSortCmpFunc[[]int64]", by decide, func311.trans (congrArg some (by kernel_rfl))⟩
  f26 := ⟨"slices.partitionEqualCmpFunc[[]int64]", by decide, func312.trans (congrArg some (by kernel_rfl))⟩
  f27 := ⟨"slices.partitionCmpFunc[[]int64]", by decide, func313.trans (congrArg some (by kernel_rfl))⟩
  f28 := func304.trans (congrArg some (by kernel_rfl))
  f29 := func305.trans (congrArg some (by kernel_rfl))
  f46 := ⟨"slices.siftDownCmpFunc[[]int64]", by decide, func321.trans (congrArg some (by kernel_rfl))⟩
  f47 := func317.trans (congrArg some (by kernel_rfl))
  f48 := func318.trans (congrArg some (by kernel_rfl))
  f49 := ⟨"slices.medianAdjacentCmpFunc[[]int64]", by decide, func322.trans (congrArg some (by kernel_rfl))⟩
  f50 := ⟨"slices.medianCmpFunc[[]int64]", by decide, func323.trans (congrArg some (by kernel_rfl))⟩
  f57 := ⟨"slices.order2CmpFunc[[]int64]", by decide, func325.trans (congrArg some (by kernel_rfl))⟩
  t0 := underlying0
  a0 := isAgg0
  z0 := sizeOf0
  v0 := zeroValue0
  t3 := underlying3
  a3 := isAgg3
  z3 := sizeOf3
  v3 := zeroValue3
  t4 := underlying4
  a4 := isAgg4
  z4 := sizeOf4
  v4 := zeroValue4
  t5 := underlying5
  a5 := isAgg5
  z5 := sizeOf5
  v5 := zeroValue5
  t9 := underlying9
  a9 := isAgg9
  z9 := sizeOf9
  v9 := zeroValue9
  t22 := underlying22
  a22 := isAgg22
  z22 := sizeOf22
  v22 := zeroValue22
  a24 := isAgg25
  z24 := sizeOf25
  t25 := underlying189
  a25 := isAgg189
  z25 := sizeOf189
  v25 := zeroValue189
  t39 := underlying235
  a39 := isAgg235
  z39 := sizeOf235
  v39 := zeroValue235
  t45 := underlying246
  a45 := isAgg246
  z45 := sizeOf246
  v45 := zeroValue246
  t46 := underlying247
  a46 := isAgg247
  z46 := sizeOf247
  v46 := zeroValue247
  t50 := underlying193
  a50 := isAgg193
  z50 := sizeOf193
  v50 := zeroValue193
  t53 := underlying253
  a53 := isAgg253
  z53 := sizeOf253
  v53 := zeroValue253
  t55 := underlying255
  a55 := isAgg255
  z55 := sizeOf255
  v55 := zeroValue255
  t66 := underlying262
  a66 := isAgg262
  z66 := sizeOf262
  v66 := zeroValue262
  t70 := underlying266
  a70 := isAgg266
  z70 := sizeOf266
  v70 := zeroValue266
  t76 := underlying270
  a76 := isAgg270
  z76 := sizeOf270
  v76 := zeroValue270
  t77 := underlying271
  a77 := isAgg271
  z77 := sizeOf271
  v77 := zeroValue271
theorem S : Sound prog ⟨257, sig, F⟩ := sort_sound lays ordS_swo ordS_tot
end slices_SortFunc_LLint64_Lint64
namespace slices_CompactFunc_LLint64_Lint64
noncomputable def sig : Sig := compS
noncomputable def F (d : List (List Int) × ((List Int × List Int × Unit) → Option (Bool × Unit)) × Unit) : Option ((List (List Int) × Unit) × (Unit)) := compF d
theorem emp (p : Option Addr) (cap : Nat) (fv : Value) (w : World) : Calls prog 258 #[.slice p 0 cap, fv] w fun e w' => e = .returned (.slice p 0 cap) ∧ w' = w := by
  go_enter func258, ntmps258
  go_wp2
  go_ret
  exact ⟨rfl, rfl⟩
open Go.Proofs Go.Shelf Go.RowKit Go.Lib Go.Sort in
set_option maxHeartbeats 16000000 in
set_option maxRecDepth 1000000 in
theorem walk {α : Type} [Inhabited α] (enc : α → Value) (hO : OneCell enc) (eq : α → α → Bool) (zr : α) (hz : enc zr = .slice none 0 0) (g : Nat) (cb : Array Value) (eg : ∀ args w, (callFunc g args).run prog w = .ok (.enter g args) w)
    (blk off cap : Nat) (d : Array α) (w : World) (hcmp : EqLays1 prog g cb enc eq blk off d.size w) (hH : Holds enc w blk off d) (hblk : blk < w.heap.size) (hsz : d.size < 4611686018427387904) (hcap : d.size ≤ cap) (kp : Nat → Bool) (hkp0 : kp 0 = true) (hkp : ∀ j, 0 < j → kp j = !(eq d[j]! d[j - 1]!)) :
    Calls prog 258 #[.slice (some ⟨blk, off, none⟩) d.size cap, .func (.func g) #[] cb] w fun e w' => e = .returned (.slice (some ⟨blk, off, none⟩) (keptUpTo kp d d.size).length cap) ∧ SW enc w blk off (keptUpTo kp d d.size ++ List.replicate (d.size - (keptUpTo kp d d.size).length) zr).toArray w' := by
  have mixed : prog.follows .mixedOrders = true := mixed_ok
  have hcl0 := hO.cells
  simp only [Value.cells] at hcl0
  have hst := hO.store prog
  have R : Row1 enc w blk off d := ⟨hO, hH, hblk⟩
  have HC : Aside (EqLays1 prog g cb enc eq blk off d.size w) := hcmp
  have S0 : Aside (SW enc w blk off d w) := SW.start hH
  have same : ∀ W, SW enc w blk off d W → (∀ j, j < d.size → kp j = true) → (keptUpTo kp d d.size).length = d.size ∧ SW enc w blk off (keptUpTo kp d d.size ++ List.replicate (d.size - (keptUpTo kp d d.size).length) zr).toArray W := by
    intro W hW hall
    have e : keptUpTo kp d d.size = d.toList := by rw [keptUpTo_all kp d _ hall, range_map_get]
    rw [e]
    refine ⟨by simp, ?_⟩
    simpa using hW
  have HS : Aside _ := same
  have K0 : Aside (kp 0 = true) := hkp0
  have K1 : Aside (∀ j, 0 < j → kp j = !(eq d[j]! d[j - 1]!)) := hkp
  clear hcmp same hkp0 hkp hH
  by_cases h2 : d.size < 2
  · go_enter func258, ntmps258
    go_wp2
    go_ret
    obtain ⟨e1, e2⟩ := HS.out _ S0.out (fun j hj => by
      have : j = 0 := by omega
      rw [this]; exact K0.out)
    exact ⟨by rw [e1]; rfl, e2⟩
  · go_enter func258, ntmps258
    go_wp2
    go_loopg [5] d.size (fun g1 s5 wr => ∃ k : Nat, s5 = .int .i64 k ∧ 1 ≤ k ∧ k ≤ d.size ∧ d.size - k ≤ g1 ∧ Aside (SW enc w blk off d wr) ∧ Hid (∀ j, j < k → kp j = true))
    case atStart => exact ⟨1, rfl, Nat.le_refl _, by omega, by omega, S0, fun j hj => by
      have : j = 0 := by omega
      rw [this]; exact K0.out⟩
    case round =>
      clear S0
      obtain ⟨k, rfl, hk1, hk, hg1, S1, HA⟩ := hrel
      by_cases hlt : k < d.size
      · have hltz : (k : Int) < (d.size : Int) := by omega
        obtain ⟨kq, hkq⟩ : ∃ q, q + 1 = k := ⟨k - 1, by omega⟩
        have zk : (k : Int) = (kq : Int) + 1 := by omega
        obtain ⟨iN, hiN⟩ : ∃ q, q = k := ⟨_, rfl⟩
        obtain ⟨jN, hjN⟩ : ∃ q, q = k - 1 := ⟨_, rfl⟩
        have ea : ((kq : Int) + 1).toNat = iN := by omega
        have pa : (0 : Int) ≤ (kq : Int) + 1 := by omega
        have ba : (kq : Int) + 1 < (d.size : Int) := by omega
        have ra : IntKind.i64.wrap ((kq : Int) + 1) = (kq : Int) + 1 := by rw [IntKind.wrap_i64]; omega
        have ec : ((kq : Int)).toNat = jN := by omega
        have pc : (0 : Int) ≤ (kq : Int) := by omega
        have bc : (kq : Int) < (d.size : Int) := by omega
        have rc : IntKind.i64.wrap ((kq : Int)) = (kq : Int) := by rw [IntKind.wrap_i64]; omega
        obtain ⟨x, hx⟩ : ∃ x, x = d[k]! := ⟨_, rfl⟩
        obtain ⟨y, hy⟩ : ∃ x, x = d[k - 1]! := ⟨_, rfl⟩
        have la := S1.out.cl R rfl k (by omega)
        have lb := S1.out.cl R rfl (k - 1) (by omega)
        rw [← hx, ← hiN] at la
        rw [← hy, ← hjN] at lb
        have hc := sw_eql S1.out HC.out rfl x y
        have KK : Aside (kp k = !(eq x y)) := by rw [hx, hy]; exact K1.out k (by omega)
        clear hx hy hiN hjN
        cases hv : eq x y with
        | true =>
          rw [hv] at hc KK
          go_wp2_with fail
          go_quiet_grown (first | (go_at_fn g; refine Calls.grown_of (hc _ _)))
          have S2 : Aside (SW enc w blk off d (grow (wr.drewN nq) osq)) := S1.out.grown nq osq
          clear la lb hc S1
          generalize grow (wr.drewN nq) osq = w2 at S2 ⊢
          clear nq osq
          clear ea ec pa ba ra pc bc rc
          have hzk : (kq : Int) + 1 = (k : Int) := by omega
          clear zk hkq
          simp only [hzk]
          clear hzk
          go_wp2
          go_loopg [5, 7] d.size (fun g2 s5 s7 wr2 => ∃ (kk k2 : Nat) (dk : Array α), s5 = .int .i64 kk ∧ s7 = .int .i64 k2 ∧ 1 ≤ k2 ∧ k + k2 ≤ d.size ∧ d.size - (k + k2) ≤ g2 ∧ Aside (SW enc w blk off dk wr2) ∧ Aside (KeptInv kp d (k + k2) kk dk))
          case atStart => exact ⟨k, 1, d, rfl, rfl, Nat.le_refl _, by omega, by omega, S2, KeptInv.start HA.out (by rw [KK.out]; rfl)⟩
          case round =>
            clear S2 KK HA
            obtain ⟨kk, k2, dk, rfl, rfl, h1, hle, hg2, S3, I2⟩ := hrel
            have hkk := I2.out.lt
            have hds := I2.out.size
            by_cases hlt2 : k + k2 < d.size
            · obtain ⟨kq, hkq⟩ : ∃ q, q + 1 = k2 := ⟨k2 - 1, by omega⟩
              have zk : (k2 : Int) = (kq : Int) + 1 := by omega
              obtain ⟨iN, hiN⟩ : ∃ q, q = k2 := ⟨_, rfl⟩
              obtain ⟨jN, hjN⟩ : ∃ q, q = k2 - 1 := ⟨_, rfl⟩
              have ea : ((kq : Int) + 1).toNat = iN := by omega
              have pa : (0 : Int) ≤ (kq : Int) + 1 := by omega
              have ba : (kq : Int) + 1 < ((d.size - k : Nat) : Int) := by omega
              have ra : IntKind.i64.wrap ((kq : Int) + 1) = (kq : Int) + 1 := by rw [IntKind.wrap_i64]; omega
              have ec : ((kq : Int)).toNat = jN := by omega
              have pc : (0 : Int) ≤ (kq : Int) := by omega
              have bc : (kq : Int) < ((d.size - k : Nat) : Int) := by omega
              have rc : IntKind.i64.wrap ((kq : Int)) = (kq : Int) := by rw [IntKind.wrap_i64]; omega
              obtain ⟨x, hx⟩ : ∃ x, x = d[k + k2]! := ⟨_, rfl⟩
              obtain ⟨y, hy⟩ : ∃ x, x = d[k + k2 - 1]! := ⟨_, rfl⟩
              have la := S3.out.cl R hds (k + k2) (by omega)
              have lb := S3.out.cl R hds (k + k2 - 1) (by omega)
              rw [I2.out.high (k + k2) (by omega), ← hx, show off + (k + k2) = off + k + iN by omega] at la
              rw [I2.out.high (k + k2 - 1) (by omega), ← hy, show off + (k + k2 - 1) = off + k + jN by omega] at lb
              have hc := sw_eql S3.out HC.out hds x y
              have KK : Aside (kp (k + k2) = !(eq x y)) := by rw [hx, hy]; exact K1.out (k + k2) (by omega)
              have XX : Aside (x = d[k + k2]!) := hx
              clear hx hy hiN hjN
              cases hv : eq x y with
              | true =>
                rw [hv] at hc KK
                go_wp2_with fail
                go_quiet_grown (first | (go_at_fn g; refine Calls.grown_of (hc _ _)))
                have S2 : Aside (SW enc w blk off dk (grow (wr.drewN nq) osq)) := S3.out.grown nq osq
                clear la lb hc S3
                generalize grow (wr.drewN nq) osq = w2 at S2 ⊢
                clear nq osq
                clear ea ec
                go_wp2
                go_roundg (d.size - (k + (k2 + 1)))
                case measure => omega
                case rel => exact ⟨kk, k2 + 1, dk, rfl, by go_num, by omega, by omega, Nat.le_refl _, S2, I2.out.skip (by rw [KK.out]; rfl)⟩
              | false =>
                rw [hv] at hc KK
                go_wp2_with fail
                go_quiet_grown (first | (go_at_fn g; refine Calls.grown_of (hc _ _)))
                have S2 : Aside (SW enc w blk off dk (grow (wr.drewN nq) osq)) := S3.out.grown nq osq
                clear la lb hc S3
                generalize grow (wr.drewN nq) osq = w2 at S2 ⊢
                clear nq osq
                clear ea ec pa ba ra pc bc rc
                have hzk : (kq : Int) + 1 = (k2 : Int) := by omega
                clear zk hkq
                simp only [hzk]
                clear hzk
                have cm := S2.out.c1 R hds (k + k2) (by omega)
                have ck := S2.out.c1 R hds kk (by omega)
                have fk := S2.out.f1 R hds kk (by omega)
                rw [I2.out.high (k + k2) (by omega), ← XX.out, show off + (k + k2) = off + k + k2 by omega] at cm
                generalize dk[kk]! = old at ck
                have hlz : (k2 : Int) < ((d.size - k : Nat) : Int) := by omega
                go_wp2
                go_roundg (d.size - (k + (k2 + 1)))
                case measure => omega
                case rel => exact ⟨kk + 1, k2 + 1, dk.setIfInBounds kk x, by go_num, by go_num, by omega, by omega, Nat.le_refl _, sw_set S2.out hblk kk x (by omega), (by have := I2.out.keep hlt2 (by rw [KK.out]; rfl); rwa [← XX.out] at this)⟩
            · have hend : k + k2 = d.size := by omega
              have hcl : ∀ ty, (Builtin.clear_ #[22] ty #[.slice (some ⟨blk, off + kk, none⟩) (d.size - kk) (cap - kk)]).run prog wr = .ok (.tuple #[]) (wr.setCells blk (off + kk) (List.replicate (d.size - kk) (enc zr))) :=
                fun ty => Lib.run_clear_slice wr _ _ ty _ underlying22 (fun w => by rw [hz]; exact zeroValue25 w) (hO.cells zr) (hO zr) blk (off + kk) _ _ (by omega) (fun j hj => by rw [show off + kk + j = off + (kk + j) by omega, S3.out.c1 R hds (kk + j) (by omega)]; rfl) (fun j hj => by rw [show off + kk + j = off + (kk + j) by omega]; exact S3.out.f1 R hds (kk + j) (by omega))
              go_wp2
              go_ret
              have hI := I2.out
              rw [hend] at hI
              refine ⟨by rw [hI.len]; rfl, ?_⟩
              rw [hI.len, ← hI.done zr]
              have := sw_lay hblk (List.replicate (d.size - kk) zr) dk _ kk S3.out (by simp; omega)
              rw [List.map_replicate, hz] at this
              exact this
        | false =>
          rw [hv] at hc KK
          go_wp2_with fail
          go_quiet_grown (first | (go_at_fn g; refine Calls.grown_of (hc _ _)))
          have S2 : Aside (SW enc w blk off d (grow (wr.drewN nq) osq)) := S1.out.grown nq osq
          clear la lb hc S1
          generalize grow (wr.drewN nq) osq = w2 at S2 ⊢
          clear nq osq
          clear ea ec
          go_wp2
          go_roundg (d.size - (k + 1))
          case measure => omega
          case rel =>
            refine ⟨k + 1, by go_num, by omega, by omega, Nat.le_refl _, S2, fun j hj => ?_⟩
            by_cases e : j = k
            · subst e; exact KK.out
            · exact HA.out j (by omega)
      · have : k = d.size := by omega
        subst this
        go_wp2
        go_ret
        obtain ⟨e1, e2⟩ := HS.out _ S1.out HA.out
        exact ⟨by rw [e1]; rfl, e2⟩
theorem S : Sound prog ⟨258, sig, F⟩ := comp_sound ⟨⟨_, func258, by kernel_rfl, by kernel_rfl⟩, emp, walk⟩
end slices_CompactFunc_LLint64_Lint64
namespace impl_inOrder
noncomputable def sig : Sig := ⟨[.val false (.sl (.sl (.int .i64)))], [(.val true, (.sl (.sl (.int .i64))), .deep)]⟩
noncomputable def ctx : Ctx := ⟨tabOf tabl, [⟨156, impl_copyLists.sig, impl_copyLists.F⟩, ⟨257, slices_SortFunc_LLint64_Lint64.sig, slices_SortFunc_LLint64_Lint64.F⟩, ⟨258, slices_CompactFunc_LLint64_Lint64.sig, slices_CompactFunc_LLint64_Lint64.F⟩], [impl_compareSimplices.clo, slices_Equal_Lint64_int64.clo], [], [], []⟩
noncomputable def cfg : Cfg := ⟨ctx, [], [], fun _ => ([], []), fun _ => []⟩
noncomputable def code : Code := (f188).body.getD .skip
noncomputable def fin := finK ctx sig [.cell 2 32]
noncomputable def F (d : List (List Int) × Unit) : Option ((List (List Int) × Unit) × (Unit)) := anyK (runFn cfg fin code (initSt sig.ps d 11))
noncomputable def T (list_1 : List (List Int)) : Option ((List (List Int) × Unit) × (Unit)) :=
  (impl_copyLists.F (list_1, ())).bind fun r2 =>
    (slices_SortFunc_LLint64_Lint64.F (r2.1.1, impl_compareSimplices.cloG (()), ())).bind fun r3 =>
      (slices_CompactFunc_LLint64_Lint64.F (r3.2.1, slices_Equal_Lint64_int64.cloG (()), ())).bind fun r4 =>
        some ((r4.1.1, ()), ())
theorem eq (list_1 : List (List Int)) : F (list_1, ()) = T list_1 := eq_any fun k => by kernel_rfl
theorem ok : CtxOK prog ctx := ⟨nilM, mixed_ok, tab_ok tab_good, consM ⟨impl_copyLists.S, consM ⟨slices_SortFunc_LLint64_Lint64.S, consM ⟨slices_CompactFunc_LLint64_Lint64.S, nilM⟩⟩⟩, consM ⟨impl_compareSimplices.cloS, consM ⟨slices_Equal_Lint64_int64.cloS, nilM⟩⟩, nilM⟩
theorem S : Sound prog ⟨188, sig, F⟩ := sound_k (res := [.cell 2 32]) func188 ok
end impl_inOrder
namespace impl_copyMatrix
noncomputable def sig : Sig := ⟨[.val true TMatrix], [(.val true, TMatrix, .deep)]⟩
noncomputable def ctx : Ctx := ⟨tabOf tabl, [⟨157, slices_Clone_Lint64_int64.sig, slices_Clone_Lint64_int64.F⟩], [], [], [], []⟩
noncomputable def cfg : Cfg := ⟨ctx, [], [], fun _ => ([], []), fun _ => []⟩
noncomputable def code : Code := (f211).body.getD .skip
noncomputable def fin := finK ctx sig [.cell 2 87]
noncomputable def F (d : (Int × Int × Int × List Int) × Unit) : Option (((Int × Int × Int × List Int) × Unit) × (Unit)) := anyK (runFn cfg fin code (initSt sig.ps d 8))
noncomputable def T (m_1 : Int) (m_2 : Int) (m_3 : Int) (m_4 : List Int) : Option (((Int × Int × Int × List Int) × Unit) × (Unit)) :=
  (slices_Clone_Lint64_int64.F (m_4, ())).bind fun r5 =>
    some (((m_1, (m_2, (m_3, r5.1.1))), ()), ())
theorem eq (m_1 : Int) (m_2 : Int) (m_3 : Int) (m_4 : List Int) : F ((m_1, (m_2, (m_3, m_4))), ()) = T m_1 m_2 m_3 m_4 := eq_any fun k => by kernel_rfl
theorem ok : CtxOK prog ctx := ⟨nilM, mixed_ok, tab_ok tab_good, consM ⟨slices_Clone_Lint64_int64.S, nilM⟩, nilM, nilM⟩
theorem S : Sound prog ⟨211, sig, F⟩ := sound_k (res := [.cell 2 87]) func211 ok
end impl_copyMatrix
namespace impl_sheafOf
noncomputable def sig : Sig := ⟨[.val true (.sl (.sl (.int .i64))), .val false (.int .i64), .val false (.sl (.int .i64)), .fnx ⟨[(true, TEdge)], [(.val true, TMatrix, .deep)]⟩], [(.val true, TSheaf, .deep)]⟩
noncomputable def ctx : Ctx := ⟨tabOf tabl, [⟨157, slices_Clone_Lint64_int64.sig, slices_Clone_Lint64_int64.F⟩, ⟨188, impl_inOrder.sig, impl_inOrder.F⟩, ⟨210, impl_arrows.sig, impl_arrows.F⟩, ⟨211, impl_copyMatrix.sig, impl_copyMatrix.F⟩], [], [], [], []⟩
noncomputable def cfg : Cfg := ⟨ctx, [], [], fun id => match id with | 3 => ([3, 8, 9, 20, 21, 22], [32, 36, 80]) | _ => ([], []), fun _ => []⟩
noncomputable def code : Code := (f122).body.getD .skip
noncomputable def fin := finK ctx sig [.cell 8 46]
noncomputable def F (d : List (List Int) × Int × List Int × (((Int × Int × Int) × Unit) → Option ((Int × Int × Int × List Int) × Unit)) × Unit) : Option (((List (List Int) × Int × List Int × List (Int × Int × Int × List Int)) × Unit) × (Unit)) := anyK (runFn cfg fin code (initSt sig.ps d 37))
noncomputable def l3 (k : Nat) (f8 : ((Int × Int × Int) × Unit) → Option ((Int × Int × Int × List Int) × Unit)) (i9 : Int) (i10 : Int) (x11 : List (List Int)) (i12 : Int) (x13 : List Int) (x14 : List (Int × Int × Int × List Int)) (x15 : List (List Int)) (i16 : Int) (x17 : List Int) (x18 : List (Int × Int × Int × List Int)) (x19 : List (Int × Int × Int)) : Option (((List (List Int) × Int × List Int × List (Int × Int × Int × List Int)) × Unit) × (Unit)) :=
  Go.Vm.runT cfg fin k [.inLoop (sub [1, 1, 0, 1, 0, 0] code), .inBlock 0, .code (sub [1, 1, 1] code)]
    ⟨[.dead, .dead, .dead, .fnx ⟨[(true, TEdge)], [(.val true, TMatrix, .deep)]⟩ f8, .dead, .dead, .dead, .dead, .ref 32 (.root 0), .ref 36 (.root 0), .dead, .dead, .dead, .dead, .dead, .dead, .dead, .dead, .dead, .dead, .view 80 (.root 0) 1 false, .val false [⟨(.int .i64), .sh, i9⟩], .val false [⟨(.int .i64), .sh, i10⟩]] ++ deads 14, [(32, ⟨true, [⟨(.sl (.sl (.int .i64))), .deep, x11⟩, ⟨(.int .i64), .sh, i12⟩, ⟨(.sl (.int .i64)), .deep, x13⟩, ⟨(.sl TMatrix), .deep, x14⟩]⟩), (36, ⟨true, [⟨(.sl (.sl (.int .i64))), .deep, x15⟩, ⟨(.int .i64), .sh, i16⟩, ⟨(.sl (.int .i64)), .deep, x17⟩, ⟨(.sl TMatrix), .deep, x18⟩]⟩), (80, ⟨false, [⟨(.sl TEdge), .deep, x19⟩]⟩)]⟩
theorem l3_eq (k : Nat) (f8 : ((Int × Int × Int) × Unit) → Option ((Int × Int × Int × List Int) × Unit)) (i9 : Int) (i10 : Int) (x11 : List (List Int)) (i12 : Int) (x13 : List Int) (x14 : List (Int × Int × Int × List Int)) (x15 : List (List Int)) (i16 : Int) (x17 : List Int) (x18 : List (Int × Int × Int × List Int)) (x19 : List (Int × Int × Int)) : l3 (k + 1) f8 i9 i10 x11 i12 x13 x14 x15 i16 x17 x18 x19 =
  if (decide (i10 < i9)) = true then
    if 0 ≤ i10 ∧ i10 < (x19.length : Int) then
      (f8 (x19.getD i10.toNat (0, 0, 0), ())).bind fun r20 =>
        (impl_copyMatrix.F (r20.1, ())).bind fun r21 =>
          if x18.length + ([r21.1.1] : List (Int × Int × Int × List Int)).length ≤ bigA then
            l3 k f8 i9 (IntKind.i64.wrap (i10 + (1 : Int))) x11 i12 x13 x14 x15 i16 x17 (x18 ++ ([r21.1.1])) x19
          else
            none
    else
      none
  else
    some (((x15, (i16, (x17, x18))), ()), ()) := by kernel_rfl
noncomputable def T (k : Nat) (c_1 : List (List Int)) (p_2 : Int) (stalks_3 : List Int) (f_4 : ((Int × Int × Int) × Unit) → Option ((Int × Int × Int × List Int) × Unit)) : Option (((List (List Int) × Int × List Int × List (Int × Int × Int × List Int)) × Unit) × (Unit)) :=
  (impl_inOrder.F (c_1, ())).bind fun r5 =>
    (slices_Clone_Lint64_int64.F (stalks_3, ())).bind fun r6 =>
      (impl_arrows.F (c_1, ())).bind fun r7 =>
        l3 k f_4 (r7.1.1.length : Int) (0 : Int) ([]) 0 ([]) ([]) r5.1.1 p_2 r6.1.1 ([]) r7.1.1
theorem of (c_1 : List (List Int)) (p_2 : Int) (stalks_3 : List Int) (f_4 : ((Int × Int × Int) × Unit) → Option ((Int × Int × Int × List Int) × Unit)) {r : ((List (List Int) × Int × List Int × List (Int × Int × Int × List Int)) × Unit) × (Unit)} (h : Ev (fun k => T k c_1 p_2 stalks_3 f_4) r) : F (c_1, p_2, stalks_3, f_4, ()) = some r := Ev.run (fun k => by kernel_rfl) h
theorem ok : CtxOK prog ctx := ⟨nilM, mixed_ok, tab_ok tab_good, consM ⟨slices_Clone_Lint64_int64.S, consM ⟨impl_inOrder.S, consM ⟨impl_arrows.S, consM ⟨impl_copyMatrix.S, nilM⟩⟩⟩⟩, nilM, nilM⟩
theorem S : Sound prog ⟨122, sig, F⟩ := sound_k (res := [.cell 8 46]) func122 ok
end impl_sheafOf
namespace impl_RescaleSheaf_1
noncomputable def sig : Sig := ⟨[.val false (.int .i64), .rptr TSheaf], [(.val false, .bool, .deep)]⟩
noncomputable def ctx : Ctx := ⟨tabOf tabl, [⟨121, impl_within.sig, impl_within.F⟩], [], [], [], []⟩
noncomputable def cfg : Cfg := ⟨ctx, [], [], fun _ => ([], []), fun _ => []⟩
noncomputable def code : Code := (f120).body.getD .skip
noncomputable def fin := finK ctx sig [.tmp 3]
noncomputable def F (d : Int × (List (List Int) × Int × List Int × List (Int × Int × Int × List Int)) × Unit) : Option ((Bool × Unit) × (Unit)) := anyK (runFn cfg fin code (initSt sig.ps d 10))
noncomputable def T (u_1 : Int) (a_2 : List (List Int)) (a_3 : Int) (a_4 : List Int) (a_5 : List (Int × Int × Int × List Int)) : Option ((Bool × Unit) × (Unit)) :=
  (impl_within.F (u_1, (1 : Int), IntKind.i64.wrap (a_3 - (1 : Int)), ())).bind fun r6 =>
    some ((!(r6.1.1 : Bool), ()), ())
theorem eq (u_1 : Int) (a_2 : List (List Int)) (a_3 : Int) (a_4 : List Int) (a_5 : List (Int × Int × Int × List Int)) : F (u_1, (a_2, (a_3, (a_4, a_5))), ()) = T u_1 a_2 a_3 a_4 a_5 := eq_any fun k => by kernel_rfl
theorem ok : CtxOK prog ctx := ⟨nilM, mixed_ok, tab_ok tab_good, consM ⟨impl_within.S, nilM⟩, nilM, nilM⟩
theorem S : Sound prog ⟨120, sig, F⟩ := sound_k (res := [.tmp 3]) func120 ok
noncomputable def cloG (y : (List (List Int) × Int × List Int × List (Int × Int × Int × List Int)) × Unit) (d : Int × Unit) : Option (Bool × Unit) := (F (joinIns [.rptr TSheaf] [(false, (.int .i64))] d y)).map (·.1)
noncomputable def clo : Clo := ⟨120, ⟨[(false, (.int .i64))], [(.val false, .bool, .deep)]⟩, [.rptr TSheaf], cloG⟩
theorem cloS : SoundClo prog clo := sound_clo (s := ⟨[(false, (.int .i64))], [(.val false, .bool, .deep)]⟩) (caps := [.rptr TSheaf]) rfl S
end impl_RescaleSheaf_1
namespace impl_powerOf
noncomputable def sig : Sig := ⟨[.val false (.int .i64), .val false (.int .i64), .val false (.int .i64)], [(.val false, (.int .i64), .deep)]⟩
noncomputable def ctx : Ctx := ⟨tabOf tabl, [], [], [], [], []⟩
noncomputable def cfg : Cfg := ⟨ctx, [], [], fun id => match id with | 2 => ([0, 1, 2, 7], []) | _ => ([], []), fun _ => []⟩
noncomputable def code : Code := (f213).body.getD .skip
noncomputable def fin := finK ctx sig [.tmp 6]
noncomputable def F (d : Int × Int × Int × Unit) : Option ((Int × Unit) × (Unit)) := anyK (runFn cfg fin code (initSt sig.ps d 26))
noncomputable def l2 (k : Nat) (i4 : Int) (i5 : Int) (i6 : Int) (i7 : Int) : Option ((Int × Unit) × (Unit)) :=
  Go.Vm.runT cfg fin k [.inLoop (sub [1, 1, 0, 0, 0] code), .inBlock 0, .code (sub [1, 1, 1] code)]
    ⟨[.val false [⟨(.int .i64), .sh, i4⟩], .val false [⟨(.int .i64), .sh, i5⟩], .val false [⟨(.int .i64), .sh, i6⟩], .dead, .dead, .dead, .dead, .val false [⟨(.int .i64), .sh, i7⟩]] ++ deads 18, []⟩
theorem l2_eq (k : Nat) (i4 : Int) (i5 : Int) (i6 : Int) (i7 : Int) : l2 (k + 1) i4 i5 i6 i7 =
  if (decide (i5 > (0 : Int))) = true then
    if (2 : Int) = 0 then
      none
    else
      if ((i5.tmod (2 : Int)) == (1 : Int)) = true then
        if i6 = 0 then
          none
        else
          if i6 = 0 then
            none
          else
            if (2 : Int) = 0 then
              none
            else
              l2 k ((IntKind.i64.wrap (i4 * i4)).tmod i6) (IntKind.i64.wrap (i5.tdiv (2 : Int))) i6 ((IntKind.i64.wrap (i7 * i4)).tmod i6)
      else
        if i6 = 0 then
          none
        else
          if (2 : Int) = 0 then
            none
          else
            l2 k ((IntKind.i64.wrap (i4 * i4)).tmod i6) (IntKind.i64.wrap (i5.tdiv (2 : Int))) i6 i7
  else
    some ((i7, ()), ()) := by kernel_rfl
noncomputable def T (k : Nat) (a_1 : Int) (n_2 : Int) (p_3 : Int) : Option ((Int × Unit) × (Unit)) :=
  l2 k a_1 n_2 p_3 (1 : Int)
theorem of (a_1 : Int) (n_2 : Int) (p_3 : Int) {r : (Int × Unit) × (Unit)} (h : Ev (fun k => T k a_1 n_2 p_3) r) : F (a_1, n_2, p_3, ()) = some r := Ev.run (fun k => by kernel_rfl) h
theorem ok : CtxOK prog ctx := ⟨nilM, mixed_ok, tab_ok tab_good, nilM, nilM, nilM⟩
theorem S : Sound prog ⟨213, sig, F⟩ := sound_k (res := [.tmp 6]) func213 ok
end impl_powerOf
namespace impl_inverseOf
noncomputable def sig : Sig := ⟨[.val false (.int .i64), .val false (.int .i64)], [(.val false, (.int .i64), .deep)]⟩
noncomputable def ctx : Ctx := ⟨tabOf tabl, [⟨213, impl_powerOf.sig, impl_powerOf.F⟩], [], [], [], []⟩
noncomputable def cfg : Cfg := ⟨ctx, [], [], fun _ => ([], []), fun _ => []⟩
noncomputable def code : Code := (f125).body.getD .skip
noncomputable def fin := finK ctx sig [.tmp 4]
noncomputable def F (d : Int × Int × Unit) : Option ((Int × Unit) × (Unit)) := anyK (runFn cfg fin code (initSt sig.ps d 10))
noncomputable def T (a_1 : Int) (p_2 : Int) : Option ((Int × Unit) × (Unit)) :=
  (impl_powerOf.F (a_1, IntKind.i64.wrap (p_2 - (2 : Int)), p_2, ())).bind fun r3 =>
    some (((r3.1.1 : Int), ()), ())
theorem eq (a_1 : Int) (p_2 : Int) : F (a_1, p_2, ()) = T a_1 p_2 := eq_any fun k => by kernel_rfl
theorem ok : CtxOK prog ctx := ⟨nilM, mixed_ok, tab_ok tab_good, consM ⟨impl_powerOf.S, nilM⟩, nilM, nilM⟩
theorem S : Sound prog ⟨125, sig, F⟩ := sound_k (res := [.tmp 4]) func125 ok
end impl_inverseOf
namespace impl_addTimes
noncomputable def sig : Sig := ⟨[.val false (.sl (.int .i64)), .val false (.sl (.int .i64)), .val false (.int .i64), .val false (.int .i64)], [(.val false, (.sl (.int .i64)), .deep)]⟩
noncomputable def ctx : Ctx := ⟨tabOf tabl, [], [], [], [], []⟩
noncomputable def cfg : Cfg := ⟨ctx, [], [], fun id => match id with | 3 => ([0, 1, 2, 3, 9, 12, 13], [36]) | _ => ([], []), fun _ => []⟩
noncomputable def code : Code := (f214).body.getD .skip
noncomputable def fin := finK ctx sig [.tmp 8]
noncomputable def F (d : List Int × List Int × Int × Int × Unit) : Option ((List Int × Unit) × (Unit)) := anyK (runFn cfg fin code (initSt sig.ps d 34))
noncomputable def l3 (k : Nat) (x5 : List Int) (x6 : List Int) (i7 : Int) (i8 : Int) (i9 : Int) (i10 : Int) (x11 : List Int) : Option ((List Int × Unit) × (Unit)) :=
  Go.Vm.runT cfg fin k [.inLoop (sub [1, 1, 0, 1, 0, 0] code), .inBlock 0, .code (sub [1, 1, 1] code)]
    ⟨[.val false [⟨(.sl (.int .i64)), .sh, x5⟩], .val false [⟨(.sl (.int .i64)), .sh, x6⟩], .val false [⟨(.int .i64), .sh, i7⟩], .val false [⟨(.int .i64), .sh, i8⟩], .dead, .dead, .dead, .dead, .dead, .view 36 (.root 0) 1 false, .dead, .dead, .val false [⟨(.int .i64), .sh, i9⟩], .val false [⟨(.int .i64), .sh, i10⟩]] ++ deads 20, [(36, ⟨false, [⟨(.sl (.int .i64)), .deep, x11⟩]⟩)]⟩
theorem l3_eq (k : Nat) (x5 : List Int) (x6 : List Int) (i7 : Int) (i8 : Int) (i9 : Int) (i10 : Int) (x11 : List Int) : l3 (k + 1) x5 x6 i7 i8 i9 i10 x11 =
  if (decide (i10 < i9)) = true then
    if 0 ≤ i10 ∧ i10 < (x5.length : Int) then
      if 0 ≤ i10 ∧ i10 < (x6.length : Int) then
        if i8 = 0 then
          none
        else
          if x11.length + ([(IntKind.i64.wrap ((x5.getD i10.toNat 0 : Int) + (IntKind.i64.wrap (i7 * (x6.getD i10.toNat 0 : Int))))).tmod i8] : List Int).length ≤ bigA then
            l3 k x5 x6 i7 i8 i9 (IntKind.i64.wrap (i10 + (1 : Int))) (x11 ++ ([(IntKind.i64.wrap ((x5.getD i10.toNat 0 : Int) + (IntKind.i64.wrap (i7 * (x6.getD i10.toNat 0 : Int))))).tmod i8]))
          else
            none
      else
        none
    else
      none
  else
    some ((x11, ()), ()) := by kernel_rfl
noncomputable def T (k : Nat) (a_1 : List Int) (b_2 : List Int) (c_3 : Int) (p_4 : Int) : Option ((List Int × Unit) × (Unit)) :=
  l3 k a_1 b_2 c_3 p_4 (a_1.length : Int) (0 : Int) ([])
theorem of (a_1 : List Int) (b_2 : List Int) (c_3 : Int) (p_4 : Int) {r : (List Int × Unit) × (Unit)} (h : Ev (fun k => T k a_1 b_2 c_3 p_4) r) : F (a_1, b_2, c_3, p_4, ()) = some r := Ev.run (fun k => by kernel_rfl) h
theorem ok : CtxOK prog ctx := ⟨nilM, mixed_ok, tab_ok tab_good, nilM, nilM, nilM⟩
theorem S : Sound prog ⟨214, sig, F⟩ := sound_k (res := [.tmp 8]) func214 ok
end impl_addTimes
namespace impl_sum
noncomputable def sig : Sig := ⟨[.val true TMatrix, .val true TMatrix, .val false (.int .i64)], [(.val true, TMatrix, .deep)]⟩
noncomputable def ctx : Ctx := ⟨tabOf tabl, [⟨214, impl_addTimes.sig, impl_addTimes.F⟩], [], [], [], []⟩
noncomputable def cfg : Cfg := ⟨ctx, [], [], fun _ => ([], []), fun _ => []⟩
noncomputable def code : Code := (f126).body.getD .skip
noncomputable def fin := finK ctx sig [.cell 6 87]
noncomputable def F (d : (Int × Int × Int × List Int) × (Int × Int × Int × List Int) × Int × Unit) : Option (((Int × Int × Int × List Int) × Unit) × (Unit)) := anyK (runFn cfg fin code (initSt sig.ps d 17))
noncomputable def T (a_1 : Int) (a_2 : Int) (a_3 : Int) (a_4 : List Int) (b_5 : Int) (b_6 : Int) (b_7 : Int) (b_8 : List Int) (c_9 : Int) : Option (((Int × Int × Int × List Int) × Unit) × (Unit)) :=
  (impl_addTimes.F (a_4, b_8, c_9, a_1, ())).bind fun r10 =>
    some (((a_1, (a_2, (a_3, r10.1.1))), ()), ())
theorem eq (a_1 : Int) (a_2 : Int) (a_3 : Int) (a_4 : List Int) (b_5 : Int) (b_6 : Int) (b_7 : Int) (b_8 : List Int) (c_9 : Int) : F ((a_1, (a_2, (a_3, a_4))), (b_5, (b_6, (b_7, b_8))), c_9, ()) = T a_1 a_2 a_3 a_4 b_5 b_6 b_7 b_8 c_9 := eq_any fun k => by kernel_rfl
theorem ok : CtxOK prog ctx := ⟨nilM, mixed_ok, tab_ok tab_good, consM ⟨impl_addTimes.S, nilM⟩, nilM, nilM⟩
theorem S : Sound prog ⟨126, sig, F⟩ := sound_k (res := [.cell 6 87]) func126 ok
end impl_sum
namespace impl_zero_1
noncomputable def sig : Sig := ⟨[.val false (.int .i64), .val false (.int .i64)], [(.val false, (.int .i64), .deep)]⟩
noncomputable def ctx : Ctx := ⟨tabOf tabl, [], [], [], [], []⟩
noncomputable def cfg : Cfg := ⟨ctx, [], [], fun _ => ([], []), fun _ => []⟩
noncomputable def code : Code := (f215).body.getD .skip
noncomputable def fin := finK ctx sig [.tmp 4]
noncomputable def F (d : Int × Int × Unit) : Option ((Int × Unit) × (Unit)) := anyK (runFn cfg fin code (initSt sig.ps d 5))
noncomputable def T (i_1 : Int) (j_2 : Int) : Option ((Int × Unit) × (Unit)) :=
  some (((0 : Int), ()), ())
theorem eq (i_1 : Int) (j_2 : Int) : F (i_1, j_2, ()) = T i_1 j_2 := eq_any fun k => by kernel_rfl
theorem ok : CtxOK prog ctx := ⟨nilM, mixed_ok, tab_ok tab_good, nilM, nilM, nilM⟩
theorem S : Sound prog ⟨215, sig, F⟩ := sound_k (res := [.tmp 4]) func215 ok
noncomputable def cloG (y : Unit) (d : Int × Int × Unit) : Option (Int × Unit) := (F (joinIns [] [(false, (.int .i64)), (false, (.int .i64))] d y)).map (·.1)
noncomputable def clo : Clo := ⟨215, ⟨[(false, (.int .i64)), (false, (.int .i64))], [(.val false, (.int .i64), .deep)]⟩, [], cloG⟩
theorem cloS : SoundClo prog clo := sound_clo (s := ⟨[(false, (.int .i64)), (false, (.int .i64))], [(.val false, (.int .i64), .deep)]⟩) (caps := []) rfl S
end impl_zero_1
namespace impl_zero
noncomputable def sig : Sig := ⟨[.val false (.int .i64), .val false (.int .i64), .val false (.int .i64)], [(.val true, TMatrix, .deep)]⟩
noncomputable def ctx : Ctx := ⟨tabOf tabl, [⟨135, impl_filled.sig, impl_filled.F⟩], [impl_zero_1.clo], [], [], []⟩
noncomputable def cfg : Cfg := ⟨ctx, [], [], fun _ => ([], []), fun _ => []⟩
noncomputable def code : Code := (f127).body.getD .skip
noncomputable def fin := finK ctx sig [.cell 6 87]
noncomputable def F (d : Int × Int × Int × Unit) : Option (((Int × Int × Int × List Int) × Unit) × (Unit)) := anyK (runFn cfg fin code (initSt sig.ps d 11))
noncomputable def T (p_1 : Int) (rows_2 : Int) (columns_3 : Int) : Option (((Int × Int × Int × List Int) × Unit) × (Unit)) :=
  (impl_filled.F (p_1, rows_2, columns_3, impl_zero_1.cloG (()), ())).bind fun r4 =>
    some ((r4.1.1, ()), ())
theorem eq (p_1 : Int) (rows_2 : Int) (columns_3 : Int) : F (p_1, rows_2, columns_3, ()) = T p_1 rows_2 columns_3 := eq_any fun k => by kernel_rfl
theorem ok : CtxOK prog ctx := ⟨nilM, mixed_ok, tab_ok tab_good, consM ⟨impl_filled.S, nilM⟩, consM ⟨impl_zero_1.cloS, nilM⟩, nilM⟩
theorem S : Sound prog ⟨127, sig, F⟩ := sound_k (res := [.cell 6 87]) func127 ok
end impl_zero
namespace impl_RescaleSheaf_2
noncomputable def sig : Sig := ⟨[.val true TEdge, .rptr TSheaf, .rptr (.sl (.int .i64))], [(.val true, TMatrix, .deep)]⟩
noncomputable def ctx : Ctx := ⟨tabOf tabl, [⟨124, impl_direct.sig, impl_direct.F⟩, ⟨125, impl_inverseOf.sig, impl_inverseOf.F⟩, ⟨126, impl_sum.sig, impl_sum.F⟩, ⟨127, impl_zero.sig, impl_zero.F⟩], [], [], [], []⟩
noncomputable def cfg : Cfg := ⟨ctx, [], [], fun _ => ([], []), fun _ => []⟩
noncomputable def code : Code := (f123).body.getD .skip
noncomputable def fin := finK ctx sig [.cell 4 87]
noncomputable def F (d : (Int × Int × Int) × (List (List Int) × Int × List Int × List (Int × Int × Int × List Int)) × List Int × Unit) : Option (((Int × Int × Int × List Int) × Unit) × (Unit)) := anyK (runFn cfg fin code (initSt sig.ps d 40))
noncomputable def T (a_1 : Int) (a_2 : Int) (a_3 : Int) (a_4 : List (List Int)) (a_5 : Int) (a_6 : List Int) (a_7 : List (Int × Int × Int × List Int)) (a_8 : List Int) : Option (((Int × Int × Int × List Int) × Unit) × (Unit)) :=
  (impl_direct.F ((a_4, (a_5, (a_6, a_7))), a_1, a_2, ())).bind fun r9 =>
    if 0 ≤ a_1 ∧ a_1 < (a_8.length : Int) then
      if 0 ≤ a_3 ∧ a_3 < (a_8.length : Int) then
        (impl_inverseOf.F ((a_8.getD a_3.toNat 0 : Int), a_5, ())).bind fun r10 =>
          if a_5 = 0 then
            none
          else
            (impl_zero.F (a_5, (r9.1.1.2.1 : Int), (r9.1.1.2.2.1 : Int), ())).bind fun r11 =>
              (impl_sum.F (r11.1.1, r9.1.1, (IntKind.i64.wrap ((a_8.getD a_1.toNat 0 : Int) * (r10.1.1 : Int))).tmod a_5, ())).bind fun r12 =>
                some ((r12.1.1, ()), ())
      else
        none
    else
      none
theorem eq (a_1 : Int) (a_2 : Int) (a_3 : Int) (a_4 : List (List Int)) (a_5 : Int) (a_6 : List Int) (a_7 : List (Int × Int × Int × List Int)) (a_8 : List Int) : F ((a_1, (a_2, a_3)), (a_4, (a_5, (a_6, a_7))), a_8, ()) = T a_1 a_2 a_3 a_4 a_5 a_6 a_7 a_8 := eq_any fun k => by kernel_rfl
theorem ok : CtxOK prog ctx := ⟨nilM, mixed_ok, tab_ok tab_good, consM ⟨impl_direct.S, consM ⟨impl_inverseOf.S, consM ⟨impl_sum.S, consM ⟨impl_zero.S, nilM⟩⟩⟩⟩, nilM, nilM⟩
theorem S : Sound prog ⟨123, sig, F⟩ := sound_k (res := [.cell 4 87]) func123 ok
noncomputable def cloG (y : (List (List Int) × Int × List Int × List (Int × Int × Int × List Int)) × List Int × Unit) (d : (Int × Int × Int) × Unit) : Option ((Int × Int × Int × List Int) × Unit) := (F (joinIns [.rptr TSheaf, .rptr (.sl (.int .i64))] [(true, TEdge)] d y)).map (·.1)
noncomputable def clo : Clo := ⟨123, ⟨[(true, TEdge)], [(.val true, TMatrix, .deep)]⟩, [.rptr TSheaf, .rptr (.sl (.int .i64))], cloG⟩
theorem cloS : SoundClo prog clo := sound_clo (s := ⟨[(true, TEdge)], [(.val true, TMatrix, .deep)]⟩) (caps := [.rptr TSheaf, .rptr (.sl (.int .i64))]) rfl S
end impl_RescaleSheaf_2
namespace impl_RescaleSheaf
noncomputable def sig : Sig := ⟨[.val true TSheaf, .val false (.sl (.int .i64))], [(.val true, TSheaf, .deep), (.val false, (.int .i64), .deep)]⟩
noncomputable def ctx : Ctx := ⟨tabOf tabl, [⟨103, impl_IsSheaf.sig, impl_IsSheaf.F⟩, ⟨119, slices_ContainsFunc_Lint64_int64.sig, slices_ContainsFunc_Lint64_int64.F⟩, ⟨122, impl_sheafOf.sig, impl_sheafOf.F⟩], [impl_RescaleSheaf_1.clo, impl_RescaleSheaf_2.clo], [], [], []⟩
noncomputable def cfg : Cfg := ⟨ctx, [], [], fun _ => ([], []), fun _ => []⟩
noncomputable def code : Code := (f53).body.getD .skip
noncomputable def fin := finK ctx sig [.cell 4 46, .tmp 5]
noncomputable def F (d : (List (List Int) × Int × List Int × List (Int × Int × Int × List Int)) × List Int × Unit) : Option (((List (List Int) × Int × List Int × List (Int × Int × Int × List Int)) × Int × Unit) × (Unit)) := anyK (runFn cfg fin code (initSt sig.ps d 30))
noncomputable def T (s_1 : List (List Int)) (s_2 : Int) (s_3 : List Int) (s_4 : List (Int × Int × Int × List Int)) (units_5 : List Int) : Option (((List (List Int) × Int × List Int × List (Int × Int × Int × List Int)) × Int × Unit) × (Unit)) :=
  (impl_IsSheaf.F ((s_1, (s_2, (s_3, s_4))), ())).bind fun r6 =>
    if (!(r6.1.1 : Bool)) = true then
      some ((([], (0, ([], []))), ((1 : Int), ())), ())
    else
      if ((units_5.length : Int) != (s_3.length : Int)) = true then
        some ((([], (0, ([], []))), ((7 : Int), ())), ())
      else
        (slices_ContainsFunc_Lint64_int64.F (units_5, impl_RescaleSheaf_1.cloG ((s_1, (s_2, (s_3, s_4))), ()), ())).bind fun r7 =>
          if (r7.1.1 : Bool) = true then
            some ((([], (0, ([], []))), ((7 : Int), ())), ())
          else
            (impl_sheafOf.F (s_1, s_2, s_3, impl_RescaleSheaf_2.cloG ((s_1, (s_2, (s_3, s_4))), units_5, ()), ())).bind fun r8 =>
              some ((r8.1.1, ((0 : Int), ())), ())
theorem eq (s_1 : List (List Int)) (s_2 : Int) (s_3 : List Int) (s_4 : List (Int × Int × Int × List Int)) (units_5 : List Int) : F ((s_1, (s_2, (s_3, s_4))), units_5, ()) = T s_1 s_2 s_3 s_4 units_5 := eq_any fun k => by kernel_rfl
theorem ok : CtxOK prog ctx := ⟨nilM, mixed_ok, tab_ok tab_good, consM ⟨impl_IsSheaf.S, consM ⟨slices_ContainsFunc_Lint64_int64.S, consM ⟨impl_sheafOf.S, nilM⟩⟩⟩, consM ⟨impl_RescaleSheaf_1.cloS, consM ⟨impl_RescaleSheaf_2.cloS, nilM⟩⟩, nilM⟩
theorem S : Sound prog ⟨53, sig, F⟩ := sound_k (res := [.cell 4 46, .tmp 5]) func53 ok
end impl_RescaleSheaf
namespace laws_FnExactRescaleSheaf
noncomputable def sig : Sig := ⟨[.val true TSheaf, .val false (.sl (.int .i64))], [(.val false, .bool, .deep)]⟩
noncomputable def ctx : Ctx := ⟨tabOf tabl, [⟨19, laws_eqInt64S.sig, laws_eqInt64S.F⟩, ⟨22, laws_markInt64S.sig, laws_markInt64S.F⟩, ⟨24, laws_szSheaf.sig, laws_szSheaf.F⟩, ⟨27, laws_toSheaf.sig, laws_toSheaf.F⟩, ⟨29, laws_toInt64S.sig, laws_toInt64S.F⟩, ⟨31, laws_eqSheaf.sig, laws_eqSheaf.F⟩, ⟨33, laws_markSheaf.sig, laws_markSheaf.F⟩, ⟨49, laws_heldSheaf.sig, laws_heldSheaf.F⟩, ⟨52, spec_RescaleSheaf.sig, spec_RescaleSheaf.F⟩, ⟨53, impl_RescaleSheaf.sig, impl_RescaleSheaf.F⟩], [], [], [], []⟩
noncomputable def cfg : Cfg := ⟨ctx, [], [], fun _ => ([], []), fun _ => []⟩
noncomputable def code : Code := (f10).body.getD .skip
noncomputable def fin := finK ctx sig [.tmp 4]
noncomputable def F (d : (List (List Int) × Int × List Int × List (Int × Int × Int × List Int)) × List Int × Unit) : Option ((Bool × Unit) × (Unit)) := anyK (runFn cfg fin code (initSt sig.ps d 117))
noncomputable def T (toArray_1 : List (List Int)) (toArray_2 : Int) (toArray_3 : List Int) (toArray_4 : List (Int × Int × Int × List Int)) (a_5 : List Int) : Option ((Bool × Unit) × (Unit)) :=
  if (decide ((a_5.length : Int) > (1048576 : Int))) = true then
    some ((true, ()), ())
  else
    (laws_szSheaf.F ((toArray_1, (toArray_2, (toArray_3, toArray_4))), (1048576 : Int), ())).bind fun r6 =>
      if (decide ((r6.1.1 : Int) < (0 : Int))) = true then
        some ((true, ()), ())
      else
        (laws_toSheaf.F ((toArray_1, (toArray_2, (toArray_3, toArray_4))), ())).bind fun r7 =>
          (laws_toInt64S.F (a_5, ())).bind fun r8 =>
            (spec_RescaleSheaf.F (r7.1.1, r8.1.1, ())).bind fun r9 =>
              (laws_toSheaf.F ((toArray_1, (toArray_2, (toArray_3, toArray_4))), ())).bind fun r10 =>
                (laws_toInt64S.F (a_5, ())).bind fun r11 =>
                  (impl_RescaleSheaf.F (r10.1.1, r11.1.1, ())).bind fun r12 =>
                    (laws_eqSheaf.F (r12.1.1, r9.1.1, ())).bind fun r13 =>
                      if (!(r13.1.1 : Bool)) = true then
                        some ((false, ()), ())
                      else
                        if ((r12.1.2.1 : Int) != (r9.1.2.1 : Int)) = true then
                          some ((false, ()), ())
                        else
                          (laws_toSheaf.F ((toArray_1, (toArray_2, (toArray_3, toArray_4))), ())).bind fun r14 =>
                            (laws_eqSheaf.F (r10.1.1, r14.1.1, ())).bind fun r15 =>
                              if (!(r15.1.1 : Bool)) = true then
                                some ((false, ()), ())
                              else
                                (laws_toInt64S.F (a_5, ())).bind fun r16 =>
                                  (laws_eqInt64S.F (r11.1.1, r16.1.1, ())).bind fun r17 =>
                                    if (!(r17.1.1 : Bool)) = true then
                                      some ((false, ()), ())
                                    else
                                      (laws_markSheaf.F (r10.1.1, (1 : Int), ())).bind fun r18 =>
                                        (laws_markInt64S.F (r11.1.1, (r18.1.1 : Int), ())).bind fun r19 =>
                                          if (decide ((r19.1.1 : Int) < (0 : Int))) = true then
                                            some ((false, ()), ())
                                          else
                                            (laws_eqSheaf.F (r12.1.1, r9.1.1, ())).bind fun r20 =>
                                              if (!(r20.1.1 : Bool)) = true then
                                                some ((false, ()), ())
                                              else
                                                if ((r12.1.2.1 : Int) != (r9.1.2.1 : Int)) = true then
                                                  some ((false, ()), ())
                                                else
                                                  (laws_markSheaf.F (r12.1.1, (1 : Int), ())).bind fun r21 =>
                                                    (laws_heldSheaf.F (r21.2.1, (1 : Int), ())).bind fun r22 =>
                                                      if (decide ((r22.1.1 : Int) < (0 : Int))) = true then
                                                        some ((false, ()), ())
                                                      else
                                                        if ((r22.1.1 : Int) != (r21.1.1 : Int)) = true then
                                                          some ((false, ()), ())
                                                        else
                                                          (laws_toSheaf.F ((toArray_1, (toArray_2, (toArray_3, toArray_4))), ())).bind fun r23 =>
                                                            (laws_toInt64S.F (a_5, ())).bind fun r24 =>
                                                              (impl_RescaleSheaf.F (r23.1.1, r24.1.1, ())).bind fun r25 =>
                                                                (laws_eqSheaf.F (r25.1.1, r9.1.1, ())).bind fun r26 =>
                                                                  if (!(r26.1.1 : Bool)) = true then
                                                                    some ((false, ()), ())
                                                                  else
                                                                    if ((r25.1.2.1 : Int) != (r9.1.2.1 : Int)) = true then
                                                                      some ((false, ()), ())
                                                                    else
                                                                      (laws_heldSheaf.F (r21.2.1, (1 : Int), ())).bind fun r27 =>
                                                                        if (decide ((r27.1.1 : Int) < (0 : Int))) = true then
                                                                          some ((false, ()), ())
                                                                        else
                                                                          if ((r27.1.1 : Int) != (r21.1.1 : Int)) = true then
                                                                            some ((false, ()), ())
                                                                          else
                                                                            some ((true, ()), ())
theorem eq (toArray_1 : List (List Int)) (toArray_2 : Int) (toArray_3 : List Int) (toArray_4 : List (Int × Int × Int × List Int)) (a_5 : List Int) : F ((toArray_1, (toArray_2, (toArray_3, toArray_4))), a_5, ()) = T toArray_1 toArray_2 toArray_3 toArray_4 a_5 := eq_any fun k => by kernel_rfl
theorem ok : CtxOK prog ctx := ⟨nilM, mixed_ok, tab_ok tab_good, consM ⟨laws_eqInt64S.S, consM ⟨laws_markInt64S.S, consM ⟨laws_szSheaf.S, consM ⟨laws_toSheaf.S, consM ⟨laws_toInt64S.S, consM ⟨laws_eqSheaf.S, consM ⟨laws_markSheaf.S, consM ⟨laws_heldSheaf.S, consM ⟨spec_RescaleSheaf.S, consM ⟨impl_RescaleSheaf.S, nilM⟩⟩⟩⟩⟩⟩⟩⟩⟩⟩, nilM, nilM⟩
theorem S : Sound prog ⟨10, sig, F⟩ := sound_k (res := [.tmp 4]) func10 ok
end laws_FnExactRescaleSheaf
end Go.Proofs.YtjimdbbeilfkfaaGreat
