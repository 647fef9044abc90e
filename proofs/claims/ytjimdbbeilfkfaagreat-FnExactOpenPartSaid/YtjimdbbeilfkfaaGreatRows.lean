/-
  No cell of these rows narrows 'for every input' (looked for: loops, veiled, ifaces, maps, wideKeys, modest, calm, conditions, laid).
  DERIVED. THE GIVEN ROWS OF THIS SEAT. 12 by the template 'for every input the law returns true; each argument reads behind the call as it read before'; 0 by the template 'total and deterministic' (their statements: YtjimdbbeilfkfaaGreatTotals.lean).
  GIVEN WITH THE SEED: the statements are not yours to turn. If you find one false, say at which input.
  Laid BY PROGRAM, IN A SANDBOX (cutbox-rows.mjs): the forced cells as the released guide's own fill.sh prints them over the translation 7bf90f9c796c8e68… (all of the seat's roots in one cut). By AI agents, Wed Nov 11 2026. No macro, syntax, notation, axiom, sorry.
-/
import Derived.Test.YtjimdbbeilfkfaaGreatChecked
import GoSem.Claim
import GoSem.ClaimJoined
import GoSem.ClaimMapViews
import Derived.JoinedTies
import Derived.KernelRfl
namespace Go.Proofs.YtjimdbbeilfkfaaGreat
/- THE CELL 'sum', in the pinned program and in every row, IS THE sha256 OF THE DUMP (.gsa) THAT YtjimdbbeilfkfaaGreatProg.lean LOADS. Nothing in Lean hashes anything: it is a label: what it is worth is what the hold of that sum in a sandbox is worth. -/
noncomputable def Tryz.pinned : Pinned := { name := "ytjimdbbeilfkfaagreat", sum := "7bf90f9c796c8e68b24de97e1703ed060dbc827e04dc0d5a0db750c0cd20824c", checked := Tryz.checked }
namespace Rows
def none {H : Type} : Left H := { results := [], args := [] }

/-- 'laws.FnExactCosheafDims': WHATEVER THE INPUT: true; the input reads as it did. -/
def fnExactCosheafDimsSpec : ChangeSpec := { name := "fnExactCosheafDims", fn := fun _ => fun
  | [d] => { results := [.lit (.bool true)], args := [d] }
  | _ => none }
def fnExactCosheafDimsRow : OpenClaim := { program := "ytjimdbbeilfkfaagreat", sum := "7bf90f9c796c8e68b24de97e1703ed060dbc827e04dc0d5a0db750c0cd20824c", func := "loop.example/g01005/laws.FnExactCosheafDims", spec := "fnExactCosheafDims", unfollowed := true, recurses := true, apart := false }
def FnExactCosheafDimsSaid : Prop := fnExactCosheafDimsRow.holds Tryz.pinned (OpenSpec.ofChange fnExactCosheafDimsSpec)

/-- ITS FALSE NEIGHBOUR: 'it returns false'. Refute it at one input. -/
def fnExactCosheafDimsWrong : ChangeSpec := { name := "fnExactCosheafDims", fn := fun _ => fun
  | [d] => { results := [.lit (.bool false)], args := [d] }
  | _ => none }
def FnExactCosheafDimsWrongFalsely : Prop := fnExactCosheafDimsRow.holds Tryz.pinned (OpenSpec.ofChange fnExactCosheafDimsWrong)

/-- 'laws.FnExactMapSection': WHATEVER THE INPUT: true; the input reads as it did. -/
def fnExactMapSectionSpec : ChangeSpec := { name := "fnExactMapSection", fn := fun _ => fun
  | [d1, d2, d3, d4] => { results := [.lit (.bool true)], args := [d1, d2, d3, d4] }
  | _ => none }
def fnExactMapSectionRow : OpenClaim := { program := "ytjimdbbeilfkfaagreat", sum := "7bf90f9c796c8e68b24de97e1703ed060dbc827e04dc0d5a0db750c0cd20824c", func := "loop.example/g01005/laws.FnExactMapSection", spec := "fnExactMapSection", unfollowed := true, recurses := true, apart := false }
def FnExactMapSectionSaid : Prop := fnExactMapSectionRow.holds Tryz.pinned (OpenSpec.ofChange fnExactMapSectionSpec)

/-- ITS FALSE NEIGHBOUR: 'it returns false'. Refute it at one input. -/
def fnExactMapSectionWrong : ChangeSpec := { name := "fnExactMapSection", fn := fun _ => fun
  | [d1, d2, d3, d4] => { results := [.lit (.bool false)], args := [d1, d2, d3, d4] }
  | _ => none }
def FnExactMapSectionWrongFalsely : Prop := fnExactMapSectionRow.holds Tryz.pinned (OpenSpec.ofChange fnExactMapSectionWrong)

/-- 'laws.FnExactConstantCosheaf': WHATEVER THE INPUT: true; the input reads as it did. -/
def fnExactConstantCosheafSpec : ChangeSpec := { name := "fnExactConstantCosheaf", fn := fun _ => fun
  | [d1, d2, d3] => { results := [.lit (.bool true)], args := [d1, d2, d3] }
  | _ => none }
def fnExactConstantCosheafRow : OpenClaim := { program := "ytjimdbbeilfkfaagreat", sum := "7bf90f9c796c8e68b24de97e1703ed060dbc827e04dc0d5a0db750c0cd20824c", func := "loop.example/g01005/laws.FnExactConstantCosheaf", spec := "fnExactConstantCosheaf", unfollowed := true, recurses := true, apart := false }
def FnExactConstantCosheafSaid : Prop := fnExactConstantCosheafRow.holds Tryz.pinned (OpenSpec.ofChange fnExactConstantCosheafSpec)

/-- ITS FALSE NEIGHBOUR: 'it returns false'. Refute it at one input. -/
def fnExactConstantCosheafWrong : ChangeSpec := { name := "fnExactConstantCosheaf", fn := fun _ => fun
  | [d1, d2, d3] => { results := [.lit (.bool false)], args := [d1, d2, d3] }
  | _ => none }
def FnExactConstantCosheafWrongFalsely : Prop := fnExactConstantCosheafRow.holds Tryz.pinned (OpenSpec.ofChange fnExactConstantCosheafWrong)

/-- 'laws.FnExactImageParts': WHATEVER THE INPUT: true; the input reads as it did. -/
def fnExactImagePartsSpec : ChangeSpec := { name := "fnExactImageParts", fn := fun _ => fun
  | [d1, d2, d3] => { results := [.lit (.bool true)], args := [d1, d2, d3] }
  | _ => none }
def fnExactImagePartsRow : OpenClaim := { program := "ytjimdbbeilfkfaagreat", sum := "7bf90f9c796c8e68b24de97e1703ed060dbc827e04dc0d5a0db750c0cd20824c", func := "loop.example/g01005/laws.FnExactImageParts", spec := "fnExactImageParts", unfollowed := true, recurses := true, apart := false }
def FnExactImagePartsSaid : Prop := fnExactImagePartsRow.holds Tryz.pinned (OpenSpec.ofChange fnExactImagePartsSpec)

/-- ITS FALSE NEIGHBOUR: 'it returns false'. Refute it at one input. -/
def fnExactImagePartsWrong : ChangeSpec := { name := "fnExactImageParts", fn := fun _ => fun
  | [d1, d2, d3] => { results := [.lit (.bool false)], args := [d1, d2, d3] }
  | _ => none }
def FnExactImagePartsWrongFalsely : Prop := fnExactImagePartsRow.holds Tryz.pinned (OpenSpec.ofChange fnExactImagePartsWrong)

/-- 'laws.FnExactPullCochain': WHATEVER THE INPUT: true; the input reads as it did. -/
def fnExactPullCochainSpec : ChangeSpec := { name := "fnExactPullCochain", fn := fun _ => fun
  | [d1, d2, d3, d4] => { results := [.lit (.bool true)], args := [d1, d2, d3, d4] }
  | _ => none }
def fnExactPullCochainRow : OpenClaim := { program := "ytjimdbbeilfkfaagreat", sum := "7bf90f9c796c8e68b24de97e1703ed060dbc827e04dc0d5a0db750c0cd20824c", func := "loop.example/g01005/laws.FnExactPullCochain", spec := "fnExactPullCochain", unfollowed := true, recurses := true, apart := false }
def FnExactPullCochainSaid : Prop := fnExactPullCochainRow.holds Tryz.pinned (OpenSpec.ofChange fnExactPullCochainSpec)

/-- ITS FALSE NEIGHBOUR: 'it returns false'. Refute it at one input. -/
def fnExactPullCochainWrong : ChangeSpec := { name := "fnExactPullCochain", fn := fun _ => fun
  | [d1, d2, d3, d4] => { results := [.lit (.bool false)], args := [d1, d2, d3, d4] }
  | _ => none }
def FnExactPullCochainWrongFalsely : Prop := fnExactPullCochainRow.holds Tryz.pinned (OpenSpec.ofChange fnExactPullCochainWrong)

/-- 'laws.FnExactClosedPart': WHATEVER THE INPUT: true; the input reads as it did. -/
def fnExactClosedPartSpec : ChangeSpec := { name := "fnExactClosedPart", fn := fun _ => fun
  | [d1, d2] => { results := [.lit (.bool true)], args := [d1, d2] }
  | _ => none }
def fnExactClosedPartRow : OpenClaim := { program := "ytjimdbbeilfkfaagreat", sum := "7bf90f9c796c8e68b24de97e1703ed060dbc827e04dc0d5a0db750c0cd20824c", func := "loop.example/g01005/laws.FnExactClosedPart", spec := "fnExactClosedPart", unfollowed := true, recurses := true, apart := false }
def FnExactClosedPartSaid : Prop := fnExactClosedPartRow.holds Tryz.pinned (OpenSpec.ofChange fnExactClosedPartSpec)

/-- ITS FALSE NEIGHBOUR: 'it returns false'. Refute it at one input. -/
def fnExactClosedPartWrong : ChangeSpec := { name := "fnExactClosedPart", fn := fun _ => fun
  | [d1, d2] => { results := [.lit (.bool false)], args := [d1, d2] }
  | _ => none }
def FnExactClosedPartWrongFalsely : Prop := fnExactClosedPartRow.holds Tryz.pinned (OpenSpec.ofChange fnExactClosedPartWrong)

/-- 'laws.FnExactOpenPart': WHATEVER THE INPUT: true; the input reads as it did. -/
def fnExactOpenPartSpec : ChangeSpec := { name := "fnExactOpenPart", fn := fun _ => fun
  | [d1, d2] => { results := [.lit (.bool true)], args := [d1, d2] }
  | _ => none }
def fnExactOpenPartRow : OpenClaim := { program := "ytjimdbbeilfkfaagreat", sum := "7bf90f9c796c8e68b24de97e1703ed060dbc827e04dc0d5a0db750c0cd20824c", func := "loop.example/g01005/laws.FnExactOpenPart", spec := "fnExactOpenPart", unfollowed := true, recurses := true, apart := false }
def FnExactOpenPartSaid : Prop := fnExactOpenPartRow.holds Tryz.pinned (OpenSpec.ofChange fnExactOpenPartSpec)

/-- ITS FALSE NEIGHBOUR: 'it returns false'. Refute it at one input. -/
def fnExactOpenPartWrong : ChangeSpec := { name := "fnExactOpenPart", fn := fun _ => fun
  | [d1, d2] => { results := [.lit (.bool false)], args := [d1, d2] }
  | _ => none }
def FnExactOpenPartWrongFalsely : Prop := fnExactOpenPartRow.holds Tryz.pinned (OpenSpec.ofChange fnExactOpenPartWrong)

/-- 'laws.FnExactRescaleSheaf': WHATEVER THE INPUT: true; the input reads as it did. -/
def fnExactRescaleSheafSpec : ChangeSpec := { name := "fnExactRescaleSheaf", fn := fun _ => fun
  | [d1, d2] => { results := [.lit (.bool true)], args := [d1, d2] }
  | _ => none }
def fnExactRescaleSheafRow : OpenClaim := { program := "ytjimdbbeilfkfaagreat", sum := "7bf90f9c796c8e68b24de97e1703ed060dbc827e04dc0d5a0db750c0cd20824c", func := "loop.example/g01005/laws.FnExactRescaleSheaf", spec := "fnExactRescaleSheaf", unfollowed := true, recurses := true, apart := false }
def FnExactRescaleSheafSaid : Prop := fnExactRescaleSheafRow.holds Tryz.pinned (OpenSpec.ofChange fnExactRescaleSheafSpec)

/-- ITS FALSE NEIGHBOUR: 'it returns false'. Refute it at one input. -/
def fnExactRescaleSheafWrong : ChangeSpec := { name := "fnExactRescaleSheaf", fn := fun _ => fun
  | [d1, d2] => { results := [.lit (.bool false)], args := [d1, d2] }
  | _ => none }
def FnExactRescaleSheafWrongFalsely : Prop := fnExactRescaleSheafRow.holds Tryz.pinned (OpenSpec.ofChange fnExactRescaleSheafWrong)

/-- 'laws.FnExactSumSheaves': WHATEVER THE INPUT: true; the input reads as it did. -/
def fnExactSumSheavesSpec : ChangeSpec := { name := "fnExactSumSheaves", fn := fun _ => fun
  | [d1, d2] => { results := [.lit (.bool true)], args := [d1, d2] }
  | _ => none }
def fnExactSumSheavesRow : OpenClaim := { program := "ytjimdbbeilfkfaagreat", sum := "7bf90f9c796c8e68b24de97e1703ed060dbc827e04dc0d5a0db750c0cd20824c", func := "loop.example/g01005/laws.FnExactSumSheaves", spec := "fnExactSumSheaves", unfollowed := true, recurses := true, apart := false }
def FnExactSumSheavesSaid : Prop := fnExactSumSheavesRow.holds Tryz.pinned (OpenSpec.ofChange fnExactSumSheavesSpec)

/-- ITS FALSE NEIGHBOUR: 'it returns false'. Refute it at one input. -/
def fnExactSumSheavesWrong : ChangeSpec := { name := "fnExactSumSheaves", fn := fun _ => fun
  | [d1, d2] => { results := [.lit (.bool false)], args := [d1, d2] }
  | _ => none }
def FnExactSumSheavesWrongFalsely : Prop := fnExactSumSheavesRow.holds Tryz.pinned (OpenSpec.ofChange fnExactSumSheavesWrong)

/-- 'laws.FnExactImageSheaf': WHATEVER THE INPUT: true; the input reads as it did. -/
def fnExactImageSheafSpec : ChangeSpec := { name := "fnExactImageSheaf", fn := fun _ => fun
  | [d1, d2, d3] => { results := [.lit (.bool true)], args := [d1, d2, d3] }
  | _ => none }
def fnExactImageSheafRow : OpenClaim := { program := "ytjimdbbeilfkfaagreat", sum := "7bf90f9c796c8e68b24de97e1703ed060dbc827e04dc0d5a0db750c0cd20824c", func := "loop.example/g01005/laws.FnExactImageSheaf", spec := "fnExactImageSheaf", unfollowed := true, recurses := true, apart := false }
def FnExactImageSheafSaid : Prop := fnExactImageSheafRow.holds Tryz.pinned (OpenSpec.ofChange fnExactImageSheafSpec)

/-- ITS FALSE NEIGHBOUR: 'it returns false'. Refute it at one input. -/
def fnExactImageSheafWrong : ChangeSpec := { name := "fnExactImageSheaf", fn := fun _ => fun
  | [d1, d2, d3] => { results := [.lit (.bool false)], args := [d1, d2, d3] }
  | _ => none }
def FnExactImageSheafWrongFalsely : Prop := fnExactImageSheafRow.holds Tryz.pinned (OpenSpec.ofChange fnExactImageSheafWrong)

/-- 'laws.FnExactKernelSheaf': WHATEVER THE INPUT: true; the input reads as it did. -/
def fnExactKernelSheafSpec : ChangeSpec := { name := "fnExactKernelSheaf", fn := fun _ => fun
  | [d1, d2, d3] => { results := [.lit (.bool true)], args := [d1, d2, d3] }
  | _ => none }
def fnExactKernelSheafRow : OpenClaim := { program := "ytjimdbbeilfkfaagreat", sum := "7bf90f9c796c8e68b24de97e1703ed060dbc827e04dc0d5a0db750c0cd20824c", func := "loop.example/g01005/laws.FnExactKernelSheaf", spec := "fnExactKernelSheaf", unfollowed := true, recurses := true, apart := false }
def FnExactKernelSheafSaid : Prop := fnExactKernelSheafRow.holds Tryz.pinned (OpenSpec.ofChange fnExactKernelSheafSpec)

/-- ITS FALSE NEIGHBOUR: 'it returns false'. Refute it at one input. -/
def fnExactKernelSheafWrong : ChangeSpec := { name := "fnExactKernelSheaf", fn := fun _ => fun
  | [d1, d2, d3] => { results := [.lit (.bool false)], args := [d1, d2, d3] }
  | _ => none }
def FnExactKernelSheafWrongFalsely : Prop := fnExactKernelSheafRow.holds Tryz.pinned (OpenSpec.ofChange fnExactKernelSheafWrong)

/-- 'laws.FnExactPullSheaf': WHATEVER THE INPUT: true; the input reads as it did. -/
def fnExactPullSheafSpec : ChangeSpec := { name := "fnExactPullSheaf", fn := fun _ => fun
  | [d1, d2, d3] => { results := [.lit (.bool true)], args := [d1, d2, d3] }
  | _ => none }
def fnExactPullSheafRow : OpenClaim := { program := "ytjimdbbeilfkfaagreat", sum := "7bf90f9c796c8e68b24de97e1703ed060dbc827e04dc0d5a0db750c0cd20824c", func := "loop.example/g01005/laws.FnExactPullSheaf", spec := "fnExactPullSheaf", unfollowed := true, recurses := true, apart := false }
def FnExactPullSheafSaid : Prop := fnExactPullSheafRow.holds Tryz.pinned (OpenSpec.ofChange fnExactPullSheafSpec)

/-- ITS FALSE NEIGHBOUR: 'it returns false'. Refute it at one input. -/
def fnExactPullSheafWrong : ChangeSpec := { name := "fnExactPullSheaf", fn := fun _ => fun
  | [d1, d2, d3] => { results := [.lit (.bool false)], args := [d1, d2, d3] }
  | _ => none }
def FnExactPullSheafWrongFalsely : Prop := fnExactPullSheafRow.holds Tryz.pinned (OpenSpec.ofChange fnExactPullSheafWrong)

/- THE SECOND FORM. 'bulk': how many values and letters a reading holds, each counted each time it is reached (what is shared counts as often as it is met; a slice's spare places count too). A statement '..UptoSaid' is the law's where the arguments, and the package variables that the reading takes, are together of bulk at most 1048576: NARROWER than '..Said'. Prove '..Said' where nothing that the law and all that it calls make is longer than what came in: it says more and counts as full. Else prove '..UptoSaid'. A law counts once. -/
mutual
def uptoBulk {H : Type} : DataW H → Nat
  | .lit (.string bytes) => bytes.length + 1
  | .lit _ => 1
  | .nil => 1
  | .ptr d => uptoBulk d + 1
  | .slice elems spare => uptoBulkAll elems + uptoBulkAll spare + 1
  | .agg parts => uptoBulkAll parts + 1
  | .iface _ d => uptoBulk d + 1
  | .map entries => uptoBulkEntries entries + 1
  | .held _ => 1
def uptoBulkAll {H : Type} : List (DataW H) → Nat
  | [] => 0
  | d :: r => uptoBulk d + uptoBulkAll r
def uptoBulkEntries {H : Type} : List (Lit × DataW H) → Nat
  | [] => 0
  | x :: r => uptoBulkEntry x + uptoBulkEntries r
def uptoBulkEntry {H : Type} : Lit × DataW H → Nat
  | (.string bytes, d) => bytes.length + uptoBulk d + 1
  | (_, d) => uptoBulk d + 1
 end
def uptoSmall : (H : Type) → List (DataW H) → Bool := fun _ ds => decide (uptoBulkAll ds ≤ 1048576)
def OpenSpec.upto (s : _root_.Go.ChangeSpec) : _root_.Go.OpenSpec := { _root_.Go.OpenSpec.ofChange s with cond := some uptoSmall }

/-- 'laws.FnExactCosheafDims', WHERE WHAT IT READS IS OF BULK AT MOST 1048576: true; the input reads as it did. -/
def fnExactCosheafDimsUptoRow : OpenClaim := { program := "ytjimdbbeilfkfaagreat", sum := "7bf90f9c796c8e68b24de97e1703ed060dbc827e04dc0d5a0db750c0cd20824c", func := "loop.example/g01005/laws.FnExactCosheafDims", spec := "fnExactCosheafDims", unfollowed := true, recurses := true, apart := false, narrowed := true }
def FnExactCosheafDimsUptoSaid : Prop := fnExactCosheafDimsUptoRow.holds Tryz.pinned (OpenSpec.upto fnExactCosheafDimsSpec)

/-- 'laws.FnExactMapSection', WHERE WHAT IT READS IS OF BULK AT MOST 1048576: true; the input reads as it did. -/
def fnExactMapSectionUptoRow : OpenClaim := { program := "ytjimdbbeilfkfaagreat", sum := "7bf90f9c796c8e68b24de97e1703ed060dbc827e04dc0d5a0db750c0cd20824c", func := "loop.example/g01005/laws.FnExactMapSection", spec := "fnExactMapSection", unfollowed := true, recurses := true, apart := false, narrowed := true }
def FnExactMapSectionUptoSaid : Prop := fnExactMapSectionUptoRow.holds Tryz.pinned (OpenSpec.upto fnExactMapSectionSpec)

/-- 'laws.FnExactConstantCosheaf', WHERE WHAT IT READS IS OF BULK AT MOST 1048576: true; the input reads as it did. -/
def fnExactConstantCosheafUptoRow : OpenClaim := { program := "ytjimdbbeilfkfaagreat", sum := "7bf90f9c796c8e68b24de97e1703ed060dbc827e04dc0d5a0db750c0cd20824c", func := "loop.example/g01005/laws.FnExactConstantCosheaf", spec := "fnExactConstantCosheaf", unfollowed := true, recurses := true, apart := false, narrowed := true }
def FnExactConstantCosheafUptoSaid : Prop := fnExactConstantCosheafUptoRow.holds Tryz.pinned (OpenSpec.upto fnExactConstantCosheafSpec)

/-- 'laws.FnExactImageParts', WHERE WHAT IT READS IS OF BULK AT MOST 1048576: true; the input reads as it did. -/
def fnExactImagePartsUptoRow : OpenClaim := { program := "ytjimdbbeilfkfaagreat", sum := "7bf90f9c796c8e68b24de97e1703ed060dbc827e04dc0d5a0db750c0cd20824c", func := "loop.example/g01005/laws.FnExactImageParts", spec := "fnExactImageParts", unfollowed := true, recurses := true, apart := false, narrowed := true }
def FnExactImagePartsUptoSaid : Prop := fnExactImagePartsUptoRow.holds Tryz.pinned (OpenSpec.upto fnExactImagePartsSpec)

/-- 'laws.FnExactPullCochain', WHERE WHAT IT READS IS OF BULK AT MOST 1048576: true; the input reads as it did. -/
def fnExactPullCochainUptoRow : OpenClaim := { program := "ytjimdbbeilfkfaagreat", sum := "7bf90f9c796c8e68b24de97e1703ed060dbc827e04dc0d5a0db750c0cd20824c", func := "loop.example/g01005/laws.FnExactPullCochain", spec := "fnExactPullCochain", unfollowed := true, recurses := true, apart := false, narrowed := true }
def FnExactPullCochainUptoSaid : Prop := fnExactPullCochainUptoRow.holds Tryz.pinned (OpenSpec.upto fnExactPullCochainSpec)

/-- 'laws.FnExactClosedPart', WHERE WHAT IT READS IS OF BULK AT MOST 1048576: true; the input reads as it did. -/
def fnExactClosedPartUptoRow : OpenClaim := { program := "ytjimdbbeilfkfaagreat", sum := "7bf90f9c796c8e68b24de97e1703ed060dbc827e04dc0d5a0db750c0cd20824c", func := "loop.example/g01005/laws.FnExactClosedPart", spec := "fnExactClosedPart", unfollowed := true, recurses := true, apart := false, narrowed := true }
def FnExactClosedPartUptoSaid : Prop := fnExactClosedPartUptoRow.holds Tryz.pinned (OpenSpec.upto fnExactClosedPartSpec)

/-- 'laws.FnExactOpenPart', WHERE WHAT IT READS IS OF BULK AT MOST 1048576: true; the input reads as it did. -/
def fnExactOpenPartUptoRow : OpenClaim := { program := "ytjimdbbeilfkfaagreat", sum := "7bf90f9c796c8e68b24de97e1703ed060dbc827e04dc0d5a0db750c0cd20824c", func := "loop.example/g01005/laws.FnExactOpenPart", spec := "fnExactOpenPart", unfollowed := true, recurses := true, apart := false, narrowed := true }
def FnExactOpenPartUptoSaid : Prop := fnExactOpenPartUptoRow.holds Tryz.pinned (OpenSpec.upto fnExactOpenPartSpec)

/-- 'laws.FnExactRescaleSheaf', WHERE WHAT IT READS IS OF BULK AT MOST 1048576: true; the input reads as it did. -/
def fnExactRescaleSheafUptoRow : OpenClaim := { program := "ytjimdbbeilfkfaagreat", sum := "7bf90f9c796c8e68b24de97e1703ed060dbc827e04dc0d5a0db750c0cd20824c", func := "loop.example/g01005/laws.FnExactRescaleSheaf", spec := "fnExactRescaleSheaf", unfollowed := true, recurses := true, apart := false, narrowed := true }
def FnExactRescaleSheafUptoSaid : Prop := fnExactRescaleSheafUptoRow.holds Tryz.pinned (OpenSpec.upto fnExactRescaleSheafSpec)

/-- 'laws.FnExactSumSheaves', WHERE WHAT IT READS IS OF BULK AT MOST 1048576: true; the input reads as it did. -/
def fnExactSumSheavesUptoRow : OpenClaim := { program := "ytjimdbbeilfkfaagreat", sum := "7bf90f9c796c8e68b24de97e1703ed060dbc827e04dc0d5a0db750c0cd20824c", func := "loop.example/g01005/laws.FnExactSumSheaves", spec := "fnExactSumSheaves", unfollowed := true, recurses := true, apart := false, narrowed := true }
def FnExactSumSheavesUptoSaid : Prop := fnExactSumSheavesUptoRow.holds Tryz.pinned (OpenSpec.upto fnExactSumSheavesSpec)

/-- 'laws.FnExactImageSheaf', WHERE WHAT IT READS IS OF BULK AT MOST 1048576: true; the input reads as it did. -/
def fnExactImageSheafUptoRow : OpenClaim := { program := "ytjimdbbeilfkfaagreat", sum := "7bf90f9c796c8e68b24de97e1703ed060dbc827e04dc0d5a0db750c0cd20824c", func := "loop.example/g01005/laws.FnExactImageSheaf", spec := "fnExactImageSheaf", unfollowed := true, recurses := true, apart := false, narrowed := true }
def FnExactImageSheafUptoSaid : Prop := fnExactImageSheafUptoRow.holds Tryz.pinned (OpenSpec.upto fnExactImageSheafSpec)

/-- 'laws.FnExactKernelSheaf', WHERE WHAT IT READS IS OF BULK AT MOST 1048576: true; the input reads as it did. -/
def fnExactKernelSheafUptoRow : OpenClaim := { program := "ytjimdbbeilfkfaagreat", sum := "7bf90f9c796c8e68b24de97e1703ed060dbc827e04dc0d5a0db750c0cd20824c", func := "loop.example/g01005/laws.FnExactKernelSheaf", spec := "fnExactKernelSheaf", unfollowed := true, recurses := true, apart := false, narrowed := true }
def FnExactKernelSheafUptoSaid : Prop := fnExactKernelSheafUptoRow.holds Tryz.pinned (OpenSpec.upto fnExactKernelSheafSpec)

/-- 'laws.FnExactPullSheaf', WHERE WHAT IT READS IS OF BULK AT MOST 1048576: true; the input reads as it did. -/
def fnExactPullSheafUptoRow : OpenClaim := { program := "ytjimdbbeilfkfaagreat", sum := "7bf90f9c796c8e68b24de97e1703ed060dbc827e04dc0d5a0db750c0cd20824c", func := "loop.example/g01005/laws.FnExactPullSheaf", spec := "fnExactPullSheaf", unfollowed := true, recurses := true, apart := false, narrowed := true }
def FnExactPullSheafUptoSaid : Prop := fnExactPullSheafUptoRow.holds Tryz.pinned (OpenSpec.upto fnExactPullSheafSpec)

end Rows
end Go.Proofs.YtjimdbbeilfkfaaGreat
