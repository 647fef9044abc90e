/- The functions, as the machine runs them. -/
import Derived.Test.YtanmmcfiogamfaaGreatRestrictSheafG1
import Derived.Test.YtanmmcfiogamfaaGreatProg
import Derived.KernelRfl
import Derived.WalkKit
import Derived.Lib.Walk
import Derived.Lib.AppendZeros
import Derived.Sort.WalkA
import Derived.Sort.WalkB2
import Derived.Sort.WalkB12
import Derived.Deep.LoopGhost
import Derived.Shelf.RegionOpenPlain
import Derived.Lib.SliceRun
namespace Go.Proofs.YtanmmcfiogamfaaGreat
open Go Go.Vm
set_option linter.unusedVariables false
set_option linter.unusedSimpArgs false
open Go.Proofs.Tryz
namespace laws_FnExactRestrictSheaf
noncomputable def sig : Sig := ⟨[.val true TSheaf, .val true tQ], [(.val false, .bool, .deep)]⟩
noncomputable def ctx : Ctx := ⟨tabOf tabl, [⟨7, laws_szSheaf.sig, laws_szSheaf.F⟩, ⟨8, laws_szComplex.sig, laws_szComplex.F⟩, ⟨9, spec_RestrictSheaf.sig, spec_RestrictSheaf.F⟩, ⟨10, laws_toSheaf.sig, laws_toSheaf.F⟩, ⟨11, laws_toComplex.sig, laws_toComplex.F⟩, ⟨12, impl_RestrictSheaf.sig, impl_RestrictSheaf.F⟩, ⟨13, laws_eqSheaf.sig, laws_eqSheaf.F⟩, ⟨14, laws_eqComplex.sig, laws_eqComplex.F⟩, ⟨15, laws_markSheaf.sig, laws_markSheaf.F⟩, ⟨16, laws_markComplex.sig, laws_markComplex.F⟩, ⟨17, laws_heldSheaf.sig, laws_heldSheaf.F⟩], [], [], [], []⟩
noncomputable def cfg : Cfg := ⟨ctx, [], [], fun _ => ([], []), fun _ => []⟩
noncomputable def code : Code := (f3).body.getD .skip
noncomputable def fin := finK ctx sig [.tmp 4]
noncomputable def F (d : SF × LL × Unit) : OB := anyK (runFn cfg fin code (initSt sig.ps d 119))
variable (toArray_1 : LL) (toArray_2 : Int) (toArray_3 : LI) (toArray_4 : LM) (a_5 : LL)
noncomputable def T : OB := (laws_szSheaf.F ((toArray_1, (toArray_2, (toArray_3, toArray_4))), (1048576 : Int), ())).bind fun r6 => if (decide ((r6.1.1 : Int) < (0 : Int))) = true then some ((true, ()), ()) else (laws_szComplex.F (a_5, (r6.1.1 : Int), ())).bind fun r7 => if (decide ((r7.1.1 : Int) < (0 : Int))) = true then some ((true, ()), ()) else (laws_toSheaf.F ((toArray_1, (toArray_2, (toArray_3, toArray_4))), ())).bind fun r8 => (laws_toComplex.F (a_5, ())).bind fun r9 => (spec_RestrictSheaf.F (r8.1.1, r9.1.1, ())).bind fun r10 => (laws_toSheaf.F ((toArray_1, (toArray_2, (toArray_3, toArray_4))), ())).bind fun r11 => (laws_toComplex.F (a_5, ())).bind fun r12 => (impl_RestrictSheaf.F (r11.1.1, r12.1.1, ())).bind fun r13 => (laws_eqSheaf.F (r13.1.1, r10.1.1, ())).bind fun r14 => if (!(r14.1.1 : Bool)) = true then some ((false, ()), ()) else if ((r13.1.2.1 : Int) != (r10.1.2.1 : Int)) = true then some ((false, ()), ()) else (laws_toSheaf.F ((toArray_1, (toArray_2, (toArray_3, toArray_4))), ())).bind fun r15 => (laws_eqSheaf.F (r11.1.1, r15.1.1, ())).bind fun r16 => if (!(r16.1.1 : Bool)) = true then some ((false, ()), ()) else (laws_toComplex.F (a_5, ())).bind fun r17 => (laws_eqComplex.F (r12.1.1, r17.1.1, ())).bind fun r18 => if (!(r18.1.1 : Bool)) = true then some ((false, ()), ()) else (laws_markSheaf.F (r11.1.1, (1 : Int), ())).bind fun r19 => (laws_markComplex.F (r12.1.1, (r19.1.1 : Int), ())).bind fun r20 => if (decide ((r20.1.1 : Int) < (0 : Int))) = true then some ((false, ()), ()) else (laws_eqSheaf.F (r13.1.1, r10.1.1, ())).bind fun r21 => if (!(r21.1.1 : Bool)) = true then some ((false, ()), ()) else if ((r13.1.2.1 : Int) != (r10.1.2.1 : Int)) = true then some ((false, ()), ()) else (laws_markSheaf.F (r13.1.1, (1 : Int), ())).bind fun r22 => (laws_heldSheaf.F (r22.2.1, (1 : Int), ())).bind fun r23 => if (decide ((r23.1.1 : Int) < (0 : Int))) = true then some ((false, ()), ()) else if ((r23.1.1 : Int) != (r22.1.1 : Int)) = true then some ((false, ()), ()) else (laws_toSheaf.F ((toArray_1, (toArray_2, (toArray_3, toArray_4))), ())).bind fun r24 => (laws_toComplex.F (a_5, ())).bind fun r25 => (impl_RestrictSheaf.F (r24.1.1, r25.1.1, ())).bind fun r26 => (laws_eqSheaf.F (r26.1.1, r10.1.1, ())).bind fun r27 => if (!(r27.1.1 : Bool)) = true then some ((false, ()), ()) else if ((r26.1.2.1 : Int) != (r10.1.2.1 : Int)) = true then some ((false, ()), ()) else (laws_heldSheaf.F (r22.2.1, (1 : Int), ())).bind fun r28 => if (decide ((r28.1.1 : Int) < (0 : Int))) = true then some ((false, ()), ()) else if ((r28.1.1 : Int) != (r22.1.1 : Int)) = true then some ((false, ()), ()) else some ((true, ()), ())
theorem eq : F ((toArray_1, (toArray_2, (toArray_3, toArray_4))), a_5, ()) = T toArray_1 toArray_2 toArray_3 toArray_4 a_5 := eq_any fun k => by kernel_rfl
theorem ok : CtxOK prog ctx := ⟨nilM, mixed_ok, tab_ok tab_good, consM ⟨laws_szSheaf.S, consM ⟨laws_szComplex.S, consM ⟨spec_RestrictSheaf.S, consM ⟨laws_toSheaf.S, consM ⟨laws_toComplex.S, consM ⟨impl_RestrictSheaf.S, consM ⟨laws_eqSheaf.S, consM ⟨laws_eqComplex.S, consM ⟨laws_markSheaf.S, consM ⟨laws_markComplex.S, consM ⟨laws_heldSheaf.S, nilM⟩⟩⟩⟩⟩⟩⟩⟩⟩⟩⟩, nilM, nilM⟩
theorem S : Sound prog ⟨3, sig, F⟩ := sound_k (res := [.tmp 4]) func3 ok
end laws_FnExactRestrictSheaf
end Go.Proofs.YtanmmcfiogamfaaGreat
