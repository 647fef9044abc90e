/-
  No cell of these rows narrows 'for every input' (looked for: loops, veiled, ifaces, maps, wideKeys, modest, calm, conditions, laid).
  DERIVED. THE GIVEN ROWS OF THIS SEAT. 9 by the template 'for every input the law returns true; each argument reads behind the call as it read before'; 0 by the template 'total and deterministic' (their statements: YtpibalgbkhpcbaaTotals.lean).
  GIVEN WITH THE SEED: the statements are not yours to turn. If you find one false, say at which input.
  Laid BY PROGRAM, IN A SANDBOX (cutbox-rows.mjs): the forced cells as the released guide's own fill.sh prints them over the translation ec10b429ad5ad043… (all of the seat's roots in one cut). By AI agents, Wed Nov 11 2026. No macro, syntax, notation, axiom, sorry.
-/
import Derived.Test.YtpibalgbkhpcbaaChecked
import GoSem.Claim
import GoSem.ClaimJoined
import GoSem.ClaimMapViews
import Derived.JoinedTies
import Derived.KernelRfl
namespace Go.Proofs.Ytpibalgbkhpcbaa
/- THE CELL 'sum', in the pinned program and in every row, IS THE sha256 OF THE DUMP (.gsa) THAT YtpibalgbkhpcbaaProg.lean LOADS. Nothing in Lean hashes anything: it is a label: what it is worth is what the hold of that sum in a sandbox is worth. -/
noncomputable def Try.pinned : Pinned := { name := "ytpibalgbkhpcbaa", sum := "ec10b429ad5ad04306b8b9a7f7bae1fcb4cdca08c7def410036f371be41befbd", checked := Try.checked }
namespace Rows
def none {H : Type} : Left H := { results := [], args := [] }

/-- 'laws.FnExactCutWeight': WHATEVER THE INPUT: true; the input reads as it did. -/
def fnExactCutWeightSpec : ChangeSpec := { name := "fnExactCutWeight", fn := fun _ => fun
  | [d1, d2] => { results := [.lit (.bool true)], args := [d1, d2] }
  | _ => none }
def fnExactCutWeightRow : OpenClaim := { program := "ytpibalgbkhpcbaa", sum := "ec10b429ad5ad04306b8b9a7f7bae1fcb4cdca08c7def410036f371be41befbd", func := "loop.example/g01005/laws.FnExactCutWeight", spec := "fnExactCutWeight", unfollowed := true, recurses := true, apart := false }
def FnExactCutWeightSaid : Prop := fnExactCutWeightRow.holds Try.pinned (OpenSpec.ofChange fnExactCutWeightSpec)

/-- ITS FALSE NEIGHBOUR: 'it returns false'. Refute it at one input. -/
def fnExactCutWeightWrong : ChangeSpec := { name := "fnExactCutWeight", fn := fun _ => fun
  | [d1, d2] => { results := [.lit (.bool false)], args := [d1, d2] }
  | _ => none }
def FnExactCutWeightWrongFalsely : Prop := fnExactCutWeightRow.holds Try.pinned (OpenSpec.ofChange fnExactCutWeightWrong)

/-- 'laws.FnExactSameCosheaf': WHATEVER THE INPUT: true; the input reads as it did. -/
def fnExactSameCosheafSpec : ChangeSpec := { name := "fnExactSameCosheaf", fn := fun _ => fun
  | [d1, d2] => { results := [.lit (.bool true)], args := [d1, d2] }
  | _ => none }
def fnExactSameCosheafRow : OpenClaim := { program := "ytpibalgbkhpcbaa", sum := "ec10b429ad5ad04306b8b9a7f7bae1fcb4cdca08c7def410036f371be41befbd", func := "loop.example/g01005/laws.FnExactSameCosheaf", spec := "fnExactSameCosheaf", unfollowed := true, recurses := true, apart := false }
def FnExactSameCosheafSaid : Prop := fnExactSameCosheafRow.holds Try.pinned (OpenSpec.ofChange fnExactSameCosheafSpec)

/-- ITS FALSE NEIGHBOUR: 'it returns false'. Refute it at one input. -/
def fnExactSameCosheafWrong : ChangeSpec := { name := "fnExactSameCosheaf", fn := fun _ => fun
  | [d1, d2] => { results := [.lit (.bool false)], args := [d1, d2] }
  | _ => none }
def FnExactSameCosheafWrongFalsely : Prop := fnExactSameCosheafRow.holds Try.pinned (OpenSpec.ofChange fnExactSameCosheafWrong)

/-- 'laws.FnExactApplyLaplacian': WHATEVER THE INPUT: true; the input reads as it did. -/
def fnExactApplyLaplacianSpec : ChangeSpec := { name := "fnExactApplyLaplacian", fn := fun _ => fun
  | [d1, d2] => { results := [.lit (.bool true)], args := [d1, d2] }
  | _ => none }
def fnExactApplyLaplacianRow : OpenClaim := { program := "ytpibalgbkhpcbaa", sum := "ec10b429ad5ad04306b8b9a7f7bae1fcb4cdca08c7def410036f371be41befbd", func := "loop.example/g01005/laws.FnExactApplyLaplacian", spec := "fnExactApplyLaplacian", unfollowed := true, recurses := true, apart := false }
def FnExactApplyLaplacianSaid : Prop := fnExactApplyLaplacianRow.holds Try.pinned (OpenSpec.ofChange fnExactApplyLaplacianSpec)

/-- ITS FALSE NEIGHBOUR: 'it returns false'. Refute it at one input. -/
def fnExactApplyLaplacianWrong : ChangeSpec := { name := "fnExactApplyLaplacian", fn := fun _ => fun
  | [d1, d2] => { results := [.lit (.bool false)], args := [d1, d2] }
  | _ => none }
def FnExactApplyLaplacianWrongFalsely : Prop := fnExactApplyLaplacianRow.holds Try.pinned (OpenSpec.ofChange fnExactApplyLaplacianWrong)

/-- 'laws.FnExactIsPart': WHATEVER THE INPUT: true; the input reads as it did. -/
def fnExactIsPartSpec : ChangeSpec := { name := "fnExactIsPart", fn := fun _ => fun
  | [d1, d2] => { results := [.lit (.bool true)], args := [d1, d2] }
  | _ => none }
def fnExactIsPartRow : OpenClaim := { program := "ytpibalgbkhpcbaa", sum := "ec10b429ad5ad04306b8b9a7f7bae1fcb4cdca08c7def410036f371be41befbd", func := "loop.example/g01005/laws.FnExactIsPart", spec := "fnExactIsPart", unfollowed := true, recurses := true, apart := false }
def FnExactIsPartSaid : Prop := fnExactIsPartRow.holds Try.pinned (OpenSpec.ofChange fnExactIsPartSpec)

/-- ITS FALSE NEIGHBOUR: 'it returns false'. Refute it at one input. -/
def fnExactIsPartWrong : ChangeSpec := { name := "fnExactIsPart", fn := fun _ => fun
  | [d1, d2] => { results := [.lit (.bool false)], args := [d1, d2] }
  | _ => none }
def FnExactIsPartWrongFalsely : Prop := fnExactIsPartRow.holds Try.pinned (OpenSpec.ofChange fnExactIsPartWrong)

/-- 'laws.FnExactValidCosheaf': WHATEVER THE INPUT: true; the input reads as it did. -/
def fnExactValidCosheafSpec : ChangeSpec := { name := "fnExactValidCosheaf", fn := fun _ => fun
  | [d] => { results := [.lit (.bool true)], args := [d] }
  | _ => none }
def fnExactValidCosheafRow : OpenClaim := { program := "ytpibalgbkhpcbaa", sum := "ec10b429ad5ad04306b8b9a7f7bae1fcb4cdca08c7def410036f371be41befbd", func := "loop.example/g01005/laws.FnExactValidCosheaf", spec := "fnExactValidCosheaf", unfollowed := true, recurses := true, apart := false }
def FnExactValidCosheafSaid : Prop := fnExactValidCosheafRow.holds Try.pinned (OpenSpec.ofChange fnExactValidCosheafSpec)

/-- ITS FALSE NEIGHBOUR: 'it returns false'. Refute it at one input. -/
def fnExactValidCosheafWrong : ChangeSpec := { name := "fnExactValidCosheaf", fn := fun _ => fun
  | [d] => { results := [.lit (.bool false)], args := [d] }
  | _ => none }
def FnExactValidCosheafWrongFalsely : Prop := fnExactValidCosheafRow.holds Try.pinned (OpenSpec.ofChange fnExactValidCosheafWrong)

/-- 'laws.FnExactIsCover': WHATEVER THE INPUT: true; the input reads as it did. -/
def fnExactIsCoverSpec : ChangeSpec := { name := "fnExactIsCover", fn := fun _ => fun
  | [d1, d2, d3] => { results := [.lit (.bool true)], args := [d1, d2, d3] }
  | _ => none }
def fnExactIsCoverRow : OpenClaim := { program := "ytpibalgbkhpcbaa", sum := "ec10b429ad5ad04306b8b9a7f7bae1fcb4cdca08c7def410036f371be41befbd", func := "loop.example/g01005/laws.FnExactIsCover", spec := "fnExactIsCover", unfollowed := true, recurses := true, apart := false }
def FnExactIsCoverSaid : Prop := fnExactIsCoverRow.holds Try.pinned (OpenSpec.ofChange fnExactIsCoverSpec)

/-- ITS FALSE NEIGHBOUR: 'it returns false'. Refute it at one input. -/
def fnExactIsCoverWrong : ChangeSpec := { name := "fnExactIsCover", fn := fun _ => fun
  | [d1, d2, d3] => { results := [.lit (.bool false)], args := [d1, d2, d3] }
  | _ => none }
def FnExactIsCoverWrongFalsely : Prop := fnExactIsCoverRow.holds Try.pinned (OpenSpec.ofChange fnExactIsCoverWrong)

/-- 'laws.FnExactIsSimplicial': WHATEVER THE INPUT: true; the input reads as it did. -/
def fnExactIsSimplicialSpec : ChangeSpec := { name := "fnExactIsSimplicial", fn := fun _ => fun
  | [d1, d2, d3] => { results := [.lit (.bool true)], args := [d1, d2, d3] }
  | _ => none }
def fnExactIsSimplicialRow : OpenClaim := { program := "ytpibalgbkhpcbaa", sum := "ec10b429ad5ad04306b8b9a7f7bae1fcb4cdca08c7def410036f371be41befbd", func := "loop.example/g01005/laws.FnExactIsSimplicial", spec := "fnExactIsSimplicial", unfollowed := true, recurses := true, apart := false }
def FnExactIsSimplicialSaid : Prop := fnExactIsSimplicialRow.holds Try.pinned (OpenSpec.ofChange fnExactIsSimplicialSpec)

/-- ITS FALSE NEIGHBOUR: 'it returns false'. Refute it at one input. -/
def fnExactIsSimplicialWrong : ChangeSpec := { name := "fnExactIsSimplicial", fn := fun _ => fun
  | [d1, d2, d3] => { results := [.lit (.bool false)], args := [d1, d2, d3] }
  | _ => none }
def FnExactIsSimplicialWrongFalsely : Prop := fnExactIsSimplicialRow.holds Try.pinned (OpenSpec.ofChange fnExactIsSimplicialWrong)

/-- 'laws.FnExactMeetComplex': WHATEVER THE INPUT: true; the input reads as it did. -/
def fnExactMeetComplexSpec : ChangeSpec := { name := "fnExactMeetComplex", fn := fun _ => fun
  | [d1, d2] => { results := [.lit (.bool true)], args := [d1, d2] }
  | _ => none }
def fnExactMeetComplexRow : OpenClaim := { program := "ytpibalgbkhpcbaa", sum := "ec10b429ad5ad04306b8b9a7f7bae1fcb4cdca08c7def410036f371be41befbd", func := "loop.example/g01005/laws.FnExactMeetComplex", spec := "fnExactMeetComplex", unfollowed := true, recurses := true, apart := false }
def FnExactMeetComplexSaid : Prop := fnExactMeetComplexRow.holds Try.pinned (OpenSpec.ofChange fnExactMeetComplexSpec)

/-- ITS FALSE NEIGHBOUR: 'it returns false'. Refute it at one input. -/
def fnExactMeetComplexWrong : ChangeSpec := { name := "fnExactMeetComplex", fn := fun _ => fun
  | [d1, d2] => { results := [.lit (.bool false)], args := [d1, d2] }
  | _ => none }
def FnExactMeetComplexWrongFalsely : Prop := fnExactMeetComplexRow.holds Try.pinned (OpenSpec.ofChange fnExactMeetComplexWrong)

/-- 'laws.FnExactUnionComplex': WHATEVER THE INPUT: true; the input reads as it did. -/
def fnExactUnionComplexSpec : ChangeSpec := { name := "fnExactUnionComplex", fn := fun _ => fun
  | [d1, d2] => { results := [.lit (.bool true)], args := [d1, d2] }
  | _ => none }
def fnExactUnionComplexRow : OpenClaim := { program := "ytpibalgbkhpcbaa", sum := "ec10b429ad5ad04306b8b9a7f7bae1fcb4cdca08c7def410036f371be41befbd", func := "loop.example/g01005/laws.FnExactUnionComplex", spec := "fnExactUnionComplex", unfollowed := true, recurses := true, apart := false }
def FnExactUnionComplexSaid : Prop := fnExactUnionComplexRow.holds Try.pinned (OpenSpec.ofChange fnExactUnionComplexSpec)

/-- ITS FALSE NEIGHBOUR: 'it returns false'. Refute it at one input. -/
def fnExactUnionComplexWrong : ChangeSpec := { name := "fnExactUnionComplex", fn := fun _ => fun
  | [d1, d2] => { results := [.lit (.bool false)], args := [d1, d2] }
  | _ => none }
def FnExactUnionComplexWrongFalsely : Prop := fnExactUnionComplexRow.holds Try.pinned (OpenSpec.ofChange fnExactUnionComplexWrong)

/- THE SECOND FORM. 'bulk': how many values and letters a reading holds, each counted each time it is reached (what is shared counts as often as it is met; a slice's spare places count too). A statement '..UptoSaid' is the law's where the arguments, and the package variables that the reading takes, are together of bulk at most 1048576: NARROWER than '..Said'. Prove '..Said' where nothing that the law and all that it calls make is longer than what came in: it says more and counts as full. Else prove '..UptoSaid'. A law counts once. -/
mutual
def uptoBulk {H : Type} : DataW H → Nat
  | .lit (.string bytes) => bytes.length + 1
  | .lit _ => 1
  | .nil => 1
  | .ptr d => uptoBulk d + 1
  | .slice elems spare => uptoBulkAll elems + uptoBulkAll spare + 1
  | .agg parts => uptoBulkAll parts + 1
  | .iface _ d => uptoBulk d + 1
  | .map entries => uptoBulkEntries entries + 1
  | .held _ => 1
def uptoBulkAll {H : Type} : List (DataW H) → Nat
  | [] => 0
  | d :: r => uptoBulk d + uptoBulkAll r
def uptoBulkEntries {H : Type} : List (Lit × DataW H) → Nat
  | [] => 0
  | x :: r => uptoBulkEntry x + uptoBulkEntries r
def uptoBulkEntry {H : Type} : Lit × DataW H → Nat
  | (.string bytes, d) => bytes.length + uptoBulk d + 1
  | (_, d) => uptoBulk d + 1
 end
def uptoSmall : (H : Type) → List (DataW H) → Bool := fun _ ds => decide (uptoBulkAll ds ≤ 1048576)
def OpenSpec.upto (s : _root_.Go.ChangeSpec) : _root_.Go.OpenSpec := { _root_.Go.OpenSpec.ofChange s with cond := some uptoSmall }

/-- 'laws.FnExactCutWeight', WHERE WHAT IT READS IS OF BULK AT MOST 1048576: true; the input reads as it did. -/
def fnExactCutWeightUptoRow : OpenClaim := { program := "ytpibalgbkhpcbaa", sum := "ec10b429ad5ad04306b8b9a7f7bae1fcb4cdca08c7def410036f371be41befbd", func := "loop.example/g01005/laws.FnExactCutWeight", spec := "fnExactCutWeight", unfollowed := true, recurses := true, apart := false, narrowed := true }
def FnExactCutWeightUptoSaid : Prop := fnExactCutWeightUptoRow.holds Try.pinned (OpenSpec.upto fnExactCutWeightSpec)

/-- 'laws.FnExactSameCosheaf', WHERE WHAT IT READS IS OF BULK AT MOST 1048576: true; the input reads as it did. -/
def fnExactSameCosheafUptoRow : OpenClaim := { program := "ytpibalgbkhpcbaa", sum := "ec10b429ad5ad04306b8b9a7f7bae1fcb4cdca08c7def410036f371be41befbd", func := "loop.example/g01005/laws.FnExactSameCosheaf", spec := "fnExactSameCosheaf", unfollowed := true, recurses := true, apart := false, narrowed := true }
def FnExactSameCosheafUptoSaid : Prop := fnExactSameCosheafUptoRow.holds Try.pinned (OpenSpec.upto fnExactSameCosheafSpec)

/-- 'laws.FnExactApplyLaplacian', WHERE WHAT IT READS IS OF BULK AT MOST 1048576: true; the input reads as it did. -/
def fnExactApplyLaplacianUptoRow : OpenClaim := { program := "ytpibalgbkhpcbaa", sum := "ec10b429ad5ad04306b8b9a7f7bae1fcb4cdca08c7def410036f371be41befbd", func := "loop.example/g01005/laws.FnExactApplyLaplacian", spec := "fnExactApplyLaplacian", unfollowed := true, recurses := true, apart := false, narrowed := true }
def FnExactApplyLaplacianUptoSaid : Prop := fnExactApplyLaplacianUptoRow.holds Try.pinned (OpenSpec.upto fnExactApplyLaplacianSpec)

/-- 'laws.FnExactIsPart', WHERE WHAT IT READS IS OF BULK AT MOST 1048576: true; the input reads as it did. -/
def fnExactIsPartUptoRow : OpenClaim := { program := "ytpibalgbkhpcbaa", sum := "ec10b429ad5ad04306b8b9a7f7bae1fcb4cdca08c7def410036f371be41befbd", func := "loop.example/g01005/laws.FnExactIsPart", spec := "fnExactIsPart", unfollowed := true, recurses := true, apart := false, narrowed := true }
def FnExactIsPartUptoSaid : Prop := fnExactIsPartUptoRow.holds Try.pinned (OpenSpec.upto fnExactIsPartSpec)

/-- 'laws.FnExactValidCosheaf', WHERE WHAT IT READS IS OF BULK AT MOST 1048576: true; the input reads as it did. -/
def fnExactValidCosheafUptoRow : OpenClaim := { program := "ytpibalgbkhpcbaa", sum := "ec10b429ad5ad04306b8b9a7f7bae1fcb4cdca08c7def410036f371be41befbd", func := "loop.example/g01005/laws.FnExactValidCosheaf", spec := "fnExactValidCosheaf", unfollowed := true, recurses := true, apart := false, narrowed := true }
def FnExactValidCosheafUptoSaid : Prop := fnExactValidCosheafUptoRow.holds Try.pinned (OpenSpec.upto fnExactValidCosheafSpec)

/-- 'laws.FnExactIsCover', WHERE WHAT IT READS IS OF BULK AT MOST 1048576: true; the input reads as it did. -/
def fnExactIsCoverUptoRow : OpenClaim := { program := "ytpibalgbkhpcbaa", sum := "ec10b429ad5ad04306b8b9a7f7bae1fcb4cdca08c7def410036f371be41befbd", func := "loop.example/g01005/laws.FnExactIsCover", spec := "fnExactIsCover", unfollowed := true, recurses := true, apart := false, narrowed := true }
def FnExactIsCoverUptoSaid : Prop := fnExactIsCoverUptoRow.holds Try.pinned (OpenSpec.upto fnExactIsCoverSpec)

/-- 'laws.FnExactIsSimplicial', WHERE WHAT IT READS IS OF BULK AT MOST 1048576: true; the input reads as it did. -/
def fnExactIsSimplicialUptoRow : OpenClaim := { program := "ytpibalgbkhpcbaa", sum := "ec10b429ad5ad04306b8b9a7f7bae1fcb4cdca08c7def410036f371be41befbd", func := "loop.example/g01005/laws.FnExactIsSimplicial", spec := "fnExactIsSimplicial", unfollowed := true, recurses := true, apart := false, narrowed := true }
def FnExactIsSimplicialUptoSaid : Prop := fnExactIsSimplicialUptoRow.holds Try.pinned (OpenSpec.upto fnExactIsSimplicialSpec)

/-- 'laws.FnExactMeetComplex', WHERE WHAT IT READS IS OF BULK AT MOST 1048576: true; the input reads as it did. -/
def fnExactMeetComplexUptoRow : OpenClaim := { program := "ytpibalgbkhpcbaa", sum := "ec10b429ad5ad04306b8b9a7f7bae1fcb4cdca08c7def410036f371be41befbd", func := "loop.example/g01005/laws.FnExactMeetComplex", spec := "fnExactMeetComplex", unfollowed := true, recurses := true, apart := false, narrowed := true }
def FnExactMeetComplexUptoSaid : Prop := fnExactMeetComplexUptoRow.holds Try.pinned (OpenSpec.upto fnExactMeetComplexSpec)

/-- 'laws.FnExactUnionComplex', WHERE WHAT IT READS IS OF BULK AT MOST 1048576: true; the input reads as it did. -/
def fnExactUnionComplexUptoRow : OpenClaim := { program := "ytpibalgbkhpcbaa", sum := "ec10b429ad5ad04306b8b9a7f7bae1fcb4cdca08c7def410036f371be41befbd", func := "loop.example/g01005/laws.FnExactUnionComplex", spec := "fnExactUnionComplex", unfollowed := true, recurses := true, apart := false, narrowed := true }
def FnExactUnionComplexUptoSaid : Prop := fnExactUnionComplexUptoRow.holds Try.pinned (OpenSpec.upto fnExactUnionComplexSpec)

end Rows
end Go.Proofs.Ytpibalgbkhpcbaa
