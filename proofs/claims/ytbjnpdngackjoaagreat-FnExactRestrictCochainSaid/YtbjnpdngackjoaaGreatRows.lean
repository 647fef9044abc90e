/-
  No cell of these rows narrows 'for every input' (looked for: loops, veiled, ifaces, maps, wideKeys, modest, calm, conditions, laid).
  DERIVED. THE GIVEN ROWS OF THIS SEAT. 11 by the template 'for every input the law returns true; each argument reads behind the call as it read before'; 0 by the template 'total and deterministic' (their statements: YtbjnpdngackjoaaGreatTotals.lean).
  GIVEN WITH THE SEED: the statements are not yours to turn. If you find one false, say at which input.
  Laid BY PROGRAM, IN A SANDBOX (cutbox-rows.mjs): the forced cells as the released guide's own fill.sh prints them over the translation 58d35829baadb7fc… (all of the seat's roots in one cut). By AI agents, Wed Nov 11 2026. No macro, syntax, notation, axiom, sorry.
-/
import Derived.Test.YtbjnpdngackjoaaGreatChecked
import GoSem.Claim
import GoSem.ClaimJoined
import GoSem.ClaimMapViews
import Derived.JoinedTies
import Derived.KernelRfl
namespace Go.Proofs.YtbjnpdngackjoaaGreat
/- THE CELL 'sum', in the pinned program and in every row, IS THE sha256 OF THE DUMP (.gsa) THAT YtbjnpdngackjoaaGreatProg.lean LOADS. Nothing in Lean hashes anything: it is a label: what it is worth is what the hold of that sum in a sandbox is worth. -/
noncomputable def Tryz.pinned : Pinned := { name := "ytbjnpdngackjoaagreat", sum := "58d35829baadb7fcf3106fc76e8f7e552ed528d28ef2110fc174c26b2c995e2a", checked := Tryz.checked }
namespace Rows
def none {H : Type} : Left H := { results := [], args := [] }

/-- 'laws.FnExactIsCosheaf': WHATEVER THE INPUT: true; the input reads as it did. -/
def fnExactIsCosheafSpec : ChangeSpec := { name := "fnExactIsCosheaf", fn := fun _ => fun
  | [d] => { results := [.lit (.bool true)], args := [d] }
  | _ => none }
def fnExactIsCosheafRow : OpenClaim := { program := "ytbjnpdngackjoaagreat", sum := "58d35829baadb7fcf3106fc76e8f7e552ed528d28ef2110fc174c26b2c995e2a", func := "loop.example/g01005/laws.FnExactIsCosheaf", spec := "fnExactIsCosheaf", unfollowed := true, recurses := true, apart := false }
def FnExactIsCosheafSaid : Prop := fnExactIsCosheafRow.holds Tryz.pinned (OpenSpec.ofChange fnExactIsCosheafSpec)

/-- ITS FALSE NEIGHBOUR: 'it returns false'. Refute it at one input. -/
def fnExactIsCosheafWrong : ChangeSpec := { name := "fnExactIsCosheaf", fn := fun _ => fun
  | [d] => { results := [.lit (.bool false)], args := [d] }
  | _ => none }
def FnExactIsCosheafWrongFalsely : Prop := fnExactIsCosheafRow.holds Tryz.pinned (OpenSpec.ofChange fnExactIsCosheafWrong)

/-- 'laws.FnExactWrongPart': WHATEVER THE INPUT: true; the input reads as it did. -/
def fnExactWrongPartSpec : ChangeSpec := { name := "fnExactWrongPart", fn := fun _ => fun
  | [d1, d2, d3] => { results := [.lit (.bool true)], args := [d1, d2, d3] }
  | _ => none }
def fnExactWrongPartRow : OpenClaim := { program := "ytbjnpdngackjoaagreat", sum := "58d35829baadb7fcf3106fc76e8f7e552ed528d28ef2110fc174c26b2c995e2a", func := "loop.example/g01005/laws.FnExactWrongPart", spec := "fnExactWrongPart", unfollowed := true, recurses := true, apart := false }
def FnExactWrongPartSaid : Prop := fnExactWrongPartRow.holds Tryz.pinned (OpenSpec.ofChange fnExactWrongPartSpec)

/-- ITS FALSE NEIGHBOUR: 'it returns false'. Refute it at one input. -/
def fnExactWrongPartWrong : ChangeSpec := { name := "fnExactWrongPart", fn := fun _ => fun
  | [d1, d2, d3] => { results := [.lit (.bool false)], args := [d1, d2, d3] }
  | _ => none }
def FnExactWrongPartWrongFalsely : Prop := fnExactWrongPartRow.holds Tryz.pinned (OpenSpec.ofChange fnExactWrongPartWrong)

/-- 'laws.FnExactZeroMorphism': WHATEVER THE INPUT: true; the input reads as it did. -/
def fnExactZeroMorphismSpec : ChangeSpec := { name := "fnExactZeroMorphism", fn := fun _ => fun
  | [d1, d2] => { results := [.lit (.bool true)], args := [d1, d2] }
  | _ => none }
def fnExactZeroMorphismRow : OpenClaim := { program := "ytbjnpdngackjoaagreat", sum := "58d35829baadb7fcf3106fc76e8f7e552ed528d28ef2110fc174c26b2c995e2a", func := "loop.example/g01005/laws.FnExactZeroMorphism", spec := "fnExactZeroMorphism", unfollowed := true, recurses := true, apart := false }
def FnExactZeroMorphismSaid : Prop := fnExactZeroMorphismRow.holds Tryz.pinned (OpenSpec.ofChange fnExactZeroMorphismSpec)

/-- ITS FALSE NEIGHBOUR: 'it returns false'. Refute it at one input. -/
def fnExactZeroMorphismWrong : ChangeSpec := { name := "fnExactZeroMorphism", fn := fun _ => fun
  | [d1, d2] => { results := [.lit (.bool false)], args := [d1, d2] }
  | _ => none }
def FnExactZeroMorphismWrongFalsely : Prop := fnExactZeroMorphismRow.holds Tryz.pinned (OpenSpec.ofChange fnExactZeroMorphismWrong)

/-- 'laws.FnExactRestrictCochain': WHATEVER THE INPUT: true; the input reads as it did. -/
def fnExactRestrictCochainSpec : ChangeSpec := { name := "fnExactRestrictCochain", fn := fun _ => fun
  | [d1, d2, d3, d4] => { results := [.lit (.bool true)], args := [d1, d2, d3, d4] }
  | _ => none }
def fnExactRestrictCochainRow : OpenClaim := { program := "ytbjnpdngackjoaagreat", sum := "58d35829baadb7fcf3106fc76e8f7e552ed528d28ef2110fc174c26b2c995e2a", func := "loop.example/g01005/laws.FnExactRestrictCochain", spec := "fnExactRestrictCochain", unfollowed := true, recurses := true, apart := false }
def FnExactRestrictCochainSaid : Prop := fnExactRestrictCochainRow.holds Tryz.pinned (OpenSpec.ofChange fnExactRestrictCochainSpec)

/-- ITS FALSE NEIGHBOUR: 'it returns false'. Refute it at one input. -/
def fnExactRestrictCochainWrong : ChangeSpec := { name := "fnExactRestrictCochain", fn := fun _ => fun
  | [d1, d2, d3, d4] => { results := [.lit (.bool false)], args := [d1, d2, d3, d4] }
  | _ => none }
def FnExactRestrictCochainWrongFalsely : Prop := fnExactRestrictCochainRow.holds Tryz.pinned (OpenSpec.ofChange fnExactRestrictCochainWrong)

/-- 'laws.FnExactExtensionOf': WHATEVER THE INPUT: true; the input reads as it did. -/
def fnExactExtensionOfSpec : ChangeSpec := { name := "fnExactExtensionOf", fn := fun _ => fun
  | [d1, d2, d3] => { results := [.lit (.bool true)], args := [d1, d2, d3] }
  | _ => none }
def fnExactExtensionOfRow : OpenClaim := { program := "ytbjnpdngackjoaagreat", sum := "58d35829baadb7fcf3106fc76e8f7e552ed528d28ef2110fc174c26b2c995e2a", func := "loop.example/g01005/laws.FnExactExtensionOf", spec := "fnExactExtensionOf", unfollowed := true, recurses := true, apart := false }
def FnExactExtensionOfSaid : Prop := fnExactExtensionOfRow.holds Tryz.pinned (OpenSpec.ofChange fnExactExtensionOfSpec)

/-- ITS FALSE NEIGHBOUR: 'it returns false'. Refute it at one input. -/
def fnExactExtensionOfWrong : ChangeSpec := { name := "fnExactExtensionOf", fn := fun _ => fun
  | [d1, d2, d3] => { results := [.lit (.bool false)], args := [d1, d2, d3] }
  | _ => none }
def FnExactExtensionOfWrongFalsely : Prop := fnExactExtensionOfRow.holds Tryz.pinned (OpenSpec.ofChange fnExactExtensionOfWrong)

/-- 'laws.FnExactComposeMorphisms': WHATEVER THE INPUT: true; the input reads as it did. -/
def fnExactComposeMorphismsSpec : ChangeSpec := { name := "fnExactComposeMorphisms", fn := fun _ => fun
  | [d1, d2, d3, d4, d5] => { results := [.lit (.bool true)], args := [d1, d2, d3, d4, d5] }
  | _ => none }
def fnExactComposeMorphismsRow : OpenClaim := { program := "ytbjnpdngackjoaagreat", sum := "58d35829baadb7fcf3106fc76e8f7e552ed528d28ef2110fc174c26b2c995e2a", func := "loop.example/g01005/laws.FnExactComposeMorphisms", spec := "fnExactComposeMorphisms", unfollowed := true, recurses := true, apart := false }
def FnExactComposeMorphismsSaid : Prop := fnExactComposeMorphismsRow.holds Tryz.pinned (OpenSpec.ofChange fnExactComposeMorphismsSpec)

/-- ITS FALSE NEIGHBOUR: 'it returns false'. Refute it at one input. -/
def fnExactComposeMorphismsWrong : ChangeSpec := { name := "fnExactComposeMorphisms", fn := fun _ => fun
  | [d1, d2, d3, d4, d5] => { results := [.lit (.bool false)], args := [d1, d2, d3, d4, d5] }
  | _ => none }
def FnExactComposeMorphismsWrongFalsely : Prop := fnExactComposeMorphismsRow.holds Tryz.pinned (OpenSpec.ofChange fnExactComposeMorphismsWrong)

/-- 'laws.FnExactAddMorphisms': WHATEVER THE INPUT: true; the input reads as it did. -/
def fnExactAddMorphismsSpec : ChangeSpec := { name := "fnExactAddMorphisms", fn := fun _ => fun
  | [d1, d2, d3, d4] => { results := [.lit (.bool true)], args := [d1, d2, d3, d4] }
  | _ => none }
def fnExactAddMorphismsRow : OpenClaim := { program := "ytbjnpdngackjoaagreat", sum := "58d35829baadb7fcf3106fc76e8f7e552ed528d28ef2110fc174c26b2c995e2a", func := "loop.example/g01005/laws.FnExactAddMorphisms", spec := "fnExactAddMorphisms", unfollowed := true, recurses := true, apart := false }
def FnExactAddMorphismsSaid : Prop := fnExactAddMorphismsRow.holds Tryz.pinned (OpenSpec.ofChange fnExactAddMorphismsSpec)

/-- ITS FALSE NEIGHBOUR: 'it returns false'. Refute it at one input. -/
def fnExactAddMorphismsWrong : ChangeSpec := { name := "fnExactAddMorphisms", fn := fun _ => fun
  | [d1, d2, d3, d4] => { results := [.lit (.bool false)], args := [d1, d2, d3, d4] }
  | _ => none }
def FnExactAddMorphismsWrongFalsely : Prop := fnExactAddMorphismsRow.holds Tryz.pinned (OpenSpec.ofChange fnExactAddMorphismsWrong)

/-- 'laws.FnExactHomDimension': WHATEVER THE INPUT: true; the input reads as it did. -/
def fnExactHomDimensionSpec : ChangeSpec := { name := "fnExactHomDimension", fn := fun _ => fun
  | [d1, d2] => { results := [.lit (.bool true)], args := [d1, d2] }
  | _ => none }
def fnExactHomDimensionRow : OpenClaim := { program := "ytbjnpdngackjoaagreat", sum := "58d35829baadb7fcf3106fc76e8f7e552ed528d28ef2110fc174c26b2c995e2a", func := "loop.example/g01005/laws.FnExactHomDimension", spec := "fnExactHomDimension", unfollowed := true, recurses := true, apart := false }
def FnExactHomDimensionSaid : Prop := fnExactHomDimensionRow.holds Tryz.pinned (OpenSpec.ofChange fnExactHomDimensionSpec)

/-- ITS FALSE NEIGHBOUR: 'it returns false'. Refute it at one input. -/
def fnExactHomDimensionWrong : ChangeSpec := { name := "fnExactHomDimension", fn := fun _ => fun
  | [d1, d2] => { results := [.lit (.bool false)], args := [d1, d2] }
  | _ => none }
def FnExactHomDimensionWrongFalsely : Prop := fnExactHomDimensionRow.holds Tryz.pinned (OpenSpec.ofChange fnExactHomDimensionWrong)

/-- 'laws.FnExactCosheafBoundary': WHATEVER THE INPUT: true; the input reads as it did. -/
def fnExactCosheafBoundarySpec : ChangeSpec := { name := "fnExactCosheafBoundary", fn := fun _ => fun
  | [d1, d2, d3] => { results := [.lit (.bool true)], args := [d1, d2, d3] }
  | _ => none }
def fnExactCosheafBoundaryRow : OpenClaim := { program := "ytbjnpdngackjoaagreat", sum := "58d35829baadb7fcf3106fc76e8f7e552ed528d28ef2110fc174c26b2c995e2a", func := "loop.example/g01005/laws.FnExactCosheafBoundary", spec := "fnExactCosheafBoundary", unfollowed := true, recurses := true, apart := false }
def FnExactCosheafBoundarySaid : Prop := fnExactCosheafBoundaryRow.holds Tryz.pinned (OpenSpec.ofChange fnExactCosheafBoundarySpec)

/-- ITS FALSE NEIGHBOUR: 'it returns false'. Refute it at one input. -/
def fnExactCosheafBoundaryWrong : ChangeSpec := { name := "fnExactCosheafBoundary", fn := fun _ => fun
  | [d1, d2, d3] => { results := [.lit (.bool false)], args := [d1, d2, d3] }
  | _ => none }
def FnExactCosheafBoundaryWrongFalsely : Prop := fnExactCosheafBoundaryRow.holds Tryz.pinned (OpenSpec.ofChange fnExactCosheafBoundaryWrong)

/-- 'laws.FnExactMorphismRanks': WHATEVER THE INPUT: true; the input reads as it did. -/
def fnExactMorphismRanksSpec : ChangeSpec := { name := "fnExactMorphismRanks", fn := fun _ => fun
  | [d1, d2, d3] => { results := [.lit (.bool true)], args := [d1, d2, d3] }
  | _ => none }
def fnExactMorphismRanksRow : OpenClaim := { program := "ytbjnpdngackjoaagreat", sum := "58d35829baadb7fcf3106fc76e8f7e552ed528d28ef2110fc174c26b2c995e2a", func := "loop.example/g01005/laws.FnExactMorphismRanks", spec := "fnExactMorphismRanks", unfollowed := true, recurses := true, apart := false }
def FnExactMorphismRanksSaid : Prop := fnExactMorphismRanksRow.holds Tryz.pinned (OpenSpec.ofChange fnExactMorphismRanksSpec)

/-- ITS FALSE NEIGHBOUR: 'it returns false'. Refute it at one input. -/
def fnExactMorphismRanksWrong : ChangeSpec := { name := "fnExactMorphismRanks", fn := fun _ => fun
  | [d1, d2, d3] => { results := [.lit (.bool false)], args := [d1, d2, d3] }
  | _ => none }
def FnExactMorphismRanksWrongFalsely : Prop := fnExactMorphismRanksRow.holds Tryz.pinned (OpenSpec.ofChange fnExactMorphismRanksWrong)

/-- 'laws.FnExactIsExact': WHATEVER THE INPUT: true; the input reads as it did. -/
def fnExactIsExactSpec : ChangeSpec := { name := "fnExactIsExact", fn := fun _ => fun
  | [d1, d2, d3, d4, d5] => { results := [.lit (.bool true)], args := [d1, d2, d3, d4, d5] }
  | _ => none }
def fnExactIsExactRow : OpenClaim := { program := "ytbjnpdngackjoaagreat", sum := "58d35829baadb7fcf3106fc76e8f7e552ed528d28ef2110fc174c26b2c995e2a", func := "loop.example/g01005/laws.FnExactIsExact", spec := "fnExactIsExact", unfollowed := true, recurses := true, apart := false }
def FnExactIsExactSaid : Prop := fnExactIsExactRow.holds Tryz.pinned (OpenSpec.ofChange fnExactIsExactSpec)

/-- ITS FALSE NEIGHBOUR: 'it returns false'. Refute it at one input. -/
def fnExactIsExactWrong : ChangeSpec := { name := "fnExactIsExact", fn := fun _ => fun
  | [d1, d2, d3, d4, d5] => { results := [.lit (.bool false)], args := [d1, d2, d3, d4, d5] }
  | _ => none }
def FnExactIsExactWrongFalsely : Prop := fnExactIsExactRow.holds Tryz.pinned (OpenSpec.ofChange fnExactIsExactWrong)

/- THE SECOND FORM. 'bulk': how many values and letters a reading holds, each counted each time it is reached (what is shared counts as often as it is met; a slice's spare places count too). A statement '..UptoSaid' is the law's where the arguments, and the package variables that the reading takes, are together of bulk at most 1048576: NARROWER than '..Said'. Prove '..Said' where nothing that the law and all that it calls make is longer than what came in: it says more and counts as full. Else prove '..UptoSaid'. A law counts once. -/
mutual
def uptoBulk {H : Type} : DataW H → Nat
  | .lit (.string bytes) => bytes.length + 1
  | .lit _ => 1
  | .nil => 1
  | .ptr d => uptoBulk d + 1
  | .slice elems spare => uptoBulkAll elems + uptoBulkAll spare + 1
  | .agg parts => uptoBulkAll parts + 1
  | .iface _ d => uptoBulk d + 1
  | .map entries => uptoBulkEntries entries + 1
  | .held _ => 1
def uptoBulkAll {H : Type} : List (DataW H) → Nat
  | [] => 0
  | d :: r => uptoBulk d + uptoBulkAll r
def uptoBulkEntries {H : Type} : List (Lit × DataW H) → Nat
  | [] => 0
  | x :: r => uptoBulkEntry x + uptoBulkEntries r
def uptoBulkEntry {H : Type} : Lit × DataW H → Nat
  | (.string bytes, d) => bytes.length + uptoBulk d + 1
  | (_, d) => uptoBulk d + 1
 end
def uptoSmall : (H : Type) → List (DataW H) → Bool := fun _ ds => decide (uptoBulkAll ds ≤ 1048576)
def OpenSpec.upto (s : _root_.Go.ChangeSpec) : _root_.Go.OpenSpec := { _root_.Go.OpenSpec.ofChange s with cond := some uptoSmall }

/-- 'laws.FnExactIsCosheaf', WHERE WHAT IT READS IS OF BULK AT MOST 1048576: true; the input reads as it did. -/
def fnExactIsCosheafUptoRow : OpenClaim := { program := "ytbjnpdngackjoaagreat", sum := "58d35829baadb7fcf3106fc76e8f7e552ed528d28ef2110fc174c26b2c995e2a", func := "loop.example/g01005/laws.FnExactIsCosheaf", spec := "fnExactIsCosheaf", unfollowed := true, recurses := true, apart := false, narrowed := true }
def FnExactIsCosheafUptoSaid : Prop := fnExactIsCosheafUptoRow.holds Tryz.pinned (OpenSpec.upto fnExactIsCosheafSpec)

/-- 'laws.FnExactWrongPart', WHERE WHAT IT READS IS OF BULK AT MOST 1048576: true; the input reads as it did. -/
def fnExactWrongPartUptoRow : OpenClaim := { program := "ytbjnpdngackjoaagreat", sum := "58d35829baadb7fcf3106fc76e8f7e552ed528d28ef2110fc174c26b2c995e2a", func := "loop.example/g01005/laws.FnExactWrongPart", spec := "fnExactWrongPart", unfollowed := true, recurses := true, apart := false, narrowed := true }
def FnExactWrongPartUptoSaid : Prop := fnExactWrongPartUptoRow.holds Tryz.pinned (OpenSpec.upto fnExactWrongPartSpec)

/-- 'laws.FnExactZeroMorphism', WHERE WHAT IT READS IS OF BULK AT MOST 1048576: true; the input reads as it did. -/
def fnExactZeroMorphismUptoRow : OpenClaim := { program := "ytbjnpdngackjoaagreat", sum := "58d35829baadb7fcf3106fc76e8f7e552ed528d28ef2110fc174c26b2c995e2a", func := "loop.example/g01005/laws.FnExactZeroMorphism", spec := "fnExactZeroMorphism", unfollowed := true, recurses := true, apart := false, narrowed := true }
def FnExactZeroMorphismUptoSaid : Prop := fnExactZeroMorphismUptoRow.holds Tryz.pinned (OpenSpec.upto fnExactZeroMorphismSpec)

/-- 'laws.FnExactRestrictCochain', WHERE WHAT IT READS IS OF BULK AT MOST 1048576: true; the input reads as it did. -/
def fnExactRestrictCochainUptoRow : OpenClaim := { program := "ytbjnpdngackjoaagreat", sum := "58d35829baadb7fcf3106fc76e8f7e552ed528d28ef2110fc174c26b2c995e2a", func := "loop.example/g01005/laws.FnExactRestrictCochain", spec := "fnExactRestrictCochain", unfollowed := true, recurses := true, apart := false, narrowed := true }
def FnExactRestrictCochainUptoSaid : Prop := fnExactRestrictCochainUptoRow.holds Tryz.pinned (OpenSpec.upto fnExactRestrictCochainSpec)

/-- 'laws.FnExactExtensionOf', WHERE WHAT IT READS IS OF BULK AT MOST 1048576: true; the input reads as it did. -/
def fnExactExtensionOfUptoRow : OpenClaim := { program := "ytbjnpdngackjoaagreat", sum := "58d35829baadb7fcf3106fc76e8f7e552ed528d28ef2110fc174c26b2c995e2a", func := "loop.example/g01005/laws.FnExactExtensionOf", spec := "fnExactExtensionOf", unfollowed := true, recurses := true, apart := false, narrowed := true }
def FnExactExtensionOfUptoSaid : Prop := fnExactExtensionOfUptoRow.holds Tryz.pinned (OpenSpec.upto fnExactExtensionOfSpec)

/-- 'laws.FnExactComposeMorphisms', WHERE WHAT IT READS IS OF BULK AT MOST 1048576: true; the input reads as it did. -/
def fnExactComposeMorphismsUptoRow : OpenClaim := { program := "ytbjnpdngackjoaagreat", sum := "58d35829baadb7fcf3106fc76e8f7e552ed528d28ef2110fc174c26b2c995e2a", func := "loop.example/g01005/laws.FnExactComposeMorphisms", spec := "fnExactComposeMorphisms", unfollowed := true, recurses := true, apart := false, narrowed := true }
def FnExactComposeMorphismsUptoSaid : Prop := fnExactComposeMorphismsUptoRow.holds Tryz.pinned (OpenSpec.upto fnExactComposeMorphismsSpec)

/-- 'laws.FnExactAddMorphisms', WHERE WHAT IT READS IS OF BULK AT MOST 1048576: true; the input reads as it did. -/
def fnExactAddMorphismsUptoRow : OpenClaim := { program := "ytbjnpdngackjoaagreat", sum := "58d35829baadb7fcf3106fc76e8f7e552ed528d28ef2110fc174c26b2c995e2a", func := "loop.example/g01005/laws.FnExactAddMorphisms", spec := "fnExactAddMorphisms", unfollowed := true, recurses := true, apart := false, narrowed := true }
def FnExactAddMorphismsUptoSaid : Prop := fnExactAddMorphismsUptoRow.holds Tryz.pinned (OpenSpec.upto fnExactAddMorphismsSpec)

/-- 'laws.FnExactHomDimension', WHERE WHAT IT READS IS OF BULK AT MOST 1048576: true; the input reads as it did. -/
def fnExactHomDimensionUptoRow : OpenClaim := { program := "ytbjnpdngackjoaagreat", sum := "58d35829baadb7fcf3106fc76e8f7e552ed528d28ef2110fc174c26b2c995e2a", func := "loop.example/g01005/laws.FnExactHomDimension", spec := "fnExactHomDimension", unfollowed := true, recurses := true, apart := false, narrowed := true }
def FnExactHomDimensionUptoSaid : Prop := fnExactHomDimensionUptoRow.holds Tryz.pinned (OpenSpec.upto fnExactHomDimensionSpec)

/-- 'laws.FnExactCosheafBoundary', WHERE WHAT IT READS IS OF BULK AT MOST 1048576: true; the input reads as it did. -/
def fnExactCosheafBoundaryUptoRow : OpenClaim := { program := "ytbjnpdngackjoaagreat", sum := "58d35829baadb7fcf3106fc76e8f7e552ed528d28ef2110fc174c26b2c995e2a", func := "loop.example/g01005/laws.FnExactCosheafBoundary", spec := "fnExactCosheafBoundary", unfollowed := true, recurses := true, apart := false, narrowed := true }
def FnExactCosheafBoundaryUptoSaid : Prop := fnExactCosheafBoundaryUptoRow.holds Tryz.pinned (OpenSpec.upto fnExactCosheafBoundarySpec)

/-- 'laws.FnExactMorphismRanks', WHERE WHAT IT READS IS OF BULK AT MOST 1048576: true; the input reads as it did. -/
def fnExactMorphismRanksUptoRow : OpenClaim := { program := "ytbjnpdngackjoaagreat", sum := "58d35829baadb7fcf3106fc76e8f7e552ed528d28ef2110fc174c26b2c995e2a", func := "loop.example/g01005/laws.FnExactMorphismRanks", spec := "fnExactMorphismRanks", unfollowed := true, recurses := true, apart := false, narrowed := true }
def FnExactMorphismRanksUptoSaid : Prop := fnExactMorphismRanksUptoRow.holds Tryz.pinned (OpenSpec.upto fnExactMorphismRanksSpec)

/-- 'laws.FnExactIsExact', WHERE WHAT IT READS IS OF BULK AT MOST 1048576: true; the input reads as it did. -/
def fnExactIsExactUptoRow : OpenClaim := { program := "ytbjnpdngackjoaagreat", sum := "58d35829baadb7fcf3106fc76e8f7e552ed528d28ef2110fc174c26b2c995e2a", func := "loop.example/g01005/laws.FnExactIsExact", spec := "fnExactIsExact", unfollowed := true, recurses := true, apart := false, narrowed := true }
def FnExactIsExactUptoSaid : Prop := fnExactIsExactUptoRow.holds Tryz.pinned (OpenSpec.upto fnExactIsExactSpec)

end Rows
end Go.Proofs.YtbjnpdngackjoaaGreat
