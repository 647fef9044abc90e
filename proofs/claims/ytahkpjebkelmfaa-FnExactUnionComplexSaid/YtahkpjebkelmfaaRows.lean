/-
  No cell of these rows narrows 'for every input' (looked for: loops, veiled, ifaces, maps, wideKeys, modest, calm, conditions, laid).
  DERIVED. THE GIVEN ROWS OF THIS SEAT. 4 by the template 'for every input the law returns true; each argument reads behind the call as it read before'; 0 by the template 'total and deterministic' (their statements: YtahkpjebkelmfaaTotals.lean).
  GIVEN WITH THE SEED: the statements are not yours to turn. If you find one false, say at which input.
  Laid BY PROGRAM, IN A SANDBOX (cutbox-rows.mjs): the forced cells as the released guide's own fill.sh prints them over the translation b1ca47ef869a6f14… (all of the seat's roots in one cut). By AI agents, Wed Nov 11 2026. No macro, syntax, notation, axiom, sorry.
-/
import Derived.Test.YtahkpjebkelmfaaChecked
import GoSem.Claim
import GoSem.ClaimJoined
import GoSem.ClaimMapViews
import Derived.JoinedTies
import Derived.KernelRfl
namespace Go.Proofs.Ytahkpjebkelmfaa
/- THE CELL 'sum', in the pinned program and in every row, IS THE sha256 OF THE DUMP (.gsa) THAT YtahkpjebkelmfaaProg.lean LOADS. Nothing in Lean hashes anything: it is a label: what it is worth is what the hold of that sum in a sandbox is worth. -/
noncomputable def Try.pinned : Pinned := { name := "ytahkpjebkelmfaa", sum := "b1ca47ef869a6f14b37d497ffeafcb1c4de9fb33a591d02d1912f3190aeb6b84", checked := Try.checked }
namespace Rows
def none {H : Type} : Left H := { results := [], args := [] }

/-- 'laws.FnExactIsCover': WHATEVER THE INPUT: true; the input reads as it did. -/
def fnExactIsCoverSpec : ChangeSpec := { name := "fnExactIsCover", fn := fun _ => fun
  | [d1, d2, d3] => { results := [.lit (.bool true)], args := [d1, d2, d3] }
  | _ => none }
def fnExactIsCoverRow : OpenClaim := { program := "ytahkpjebkelmfaa", sum := "b1ca47ef869a6f14b37d497ffeafcb1c4de9fb33a591d02d1912f3190aeb6b84", func := "loop.example/g01005/laws.FnExactIsCover", spec := "fnExactIsCover", unfollowed := true, recurses := true, apart := false }
def FnExactIsCoverSaid : Prop := fnExactIsCoverRow.holds Try.pinned (OpenSpec.ofChange fnExactIsCoverSpec)

/-- ITS FALSE NEIGHBOUR: 'it returns false'. Refute it at one input. -/
def fnExactIsCoverWrong : ChangeSpec := { name := "fnExactIsCover", fn := fun _ => fun
  | [d1, d2, d3] => { results := [.lit (.bool false)], args := [d1, d2, d3] }
  | _ => none }
def FnExactIsCoverWrongFalsely : Prop := fnExactIsCoverRow.holds Try.pinned (OpenSpec.ofChange fnExactIsCoverWrong)

/-- 'laws.FnExactIsSimplicial': WHATEVER THE INPUT: true; the input reads as it did. -/
def fnExactIsSimplicialSpec : ChangeSpec := { name := "fnExactIsSimplicial", fn := fun _ => fun
  | [d1, d2, d3] => { results := [.lit (.bool true)], args := [d1, d2, d3] }
  | _ => none }
def fnExactIsSimplicialRow : OpenClaim := { program := "ytahkpjebkelmfaa", sum := "b1ca47ef869a6f14b37d497ffeafcb1c4de9fb33a591d02d1912f3190aeb6b84", func := "loop.example/g01005/laws.FnExactIsSimplicial", spec := "fnExactIsSimplicial", unfollowed := true, recurses := true, apart := false }
def FnExactIsSimplicialSaid : Prop := fnExactIsSimplicialRow.holds Try.pinned (OpenSpec.ofChange fnExactIsSimplicialSpec)

/-- ITS FALSE NEIGHBOUR: 'it returns false'. Refute it at one input. -/
def fnExactIsSimplicialWrong : ChangeSpec := { name := "fnExactIsSimplicial", fn := fun _ => fun
  | [d1, d2, d3] => { results := [.lit (.bool false)], args := [d1, d2, d3] }
  | _ => none }
def FnExactIsSimplicialWrongFalsely : Prop := fnExactIsSimplicialRow.holds Try.pinned (OpenSpec.ofChange fnExactIsSimplicialWrong)

/-- 'laws.FnExactMeetComplex': WHATEVER THE INPUT: true; the input reads as it did. -/
def fnExactMeetComplexSpec : ChangeSpec := { name := "fnExactMeetComplex", fn := fun _ => fun
  | [d1, d2] => { results := [.lit (.bool true)], args := [d1, d2] }
  | _ => none }
def fnExactMeetComplexRow : OpenClaim := { program := "ytahkpjebkelmfaa", sum := "b1ca47ef869a6f14b37d497ffeafcb1c4de9fb33a591d02d1912f3190aeb6b84", func := "loop.example/g01005/laws.FnExactMeetComplex", spec := "fnExactMeetComplex", unfollowed := true, recurses := true, apart := false }
def FnExactMeetComplexSaid : Prop := fnExactMeetComplexRow.holds Try.pinned (OpenSpec.ofChange fnExactMeetComplexSpec)

/-- ITS FALSE NEIGHBOUR: 'it returns false'. Refute it at one input. -/
def fnExactMeetComplexWrong : ChangeSpec := { name := "fnExactMeetComplex", fn := fun _ => fun
  | [d1, d2] => { results := [.lit (.bool false)], args := [d1, d2] }
  | _ => none }
def FnExactMeetComplexWrongFalsely : Prop := fnExactMeetComplexRow.holds Try.pinned (OpenSpec.ofChange fnExactMeetComplexWrong)

/-- 'laws.FnExactUnionComplex': WHATEVER THE INPUT: true; the input reads as it did. -/
def fnExactUnionComplexSpec : ChangeSpec := { name := "fnExactUnionComplex", fn := fun _ => fun
  | [d1, d2] => { results := [.lit (.bool true)], args := [d1, d2] }
  | _ => none }
def fnExactUnionComplexRow : OpenClaim := { program := "ytahkpjebkelmfaa", sum := "b1ca47ef869a6f14b37d497ffeafcb1c4de9fb33a591d02d1912f3190aeb6b84", func := "loop.example/g01005/laws.FnExactUnionComplex", spec := "fnExactUnionComplex", unfollowed := true, recurses := true, apart := false }
def FnExactUnionComplexSaid : Prop := fnExactUnionComplexRow.holds Try.pinned (OpenSpec.ofChange fnExactUnionComplexSpec)

/-- ITS FALSE NEIGHBOUR: 'it returns false'. Refute it at one input. -/
def fnExactUnionComplexWrong : ChangeSpec := { name := "fnExactUnionComplex", fn := fun _ => fun
  | [d1, d2] => { results := [.lit (.bool false)], args := [d1, d2] }
  | _ => none }
def FnExactUnionComplexWrongFalsely : Prop := fnExactUnionComplexRow.holds Try.pinned (OpenSpec.ofChange fnExactUnionComplexWrong)

/- THE SECOND FORM. 'bulk': how many values and letters a reading holds, each counted each time it is reached (what is shared counts as often as it is met; a slice's spare places count too). A statement '..UptoSaid' is the law's where the arguments, and the package variables that the reading takes, are together of bulk at most 1048576: NARROWER than '..Said'. Prove '..Said' where nothing that the law and all that it calls make is longer than what came in: it says more and counts as full. Else prove '..UptoSaid'. A law counts once. -/
mutual
def uptoBulk {H : Type} : DataW H → Nat
  | .lit (.string bytes) => bytes.length + 1
  | .lit _ => 1
  | .nil => 1
  | .ptr d => uptoBulk d + 1
  | .slice elems spare => uptoBulkAll elems + uptoBulkAll spare + 1
  | .agg parts => uptoBulkAll parts + 1
  | .iface _ d => uptoBulk d + 1
  | .map entries => uptoBulkEntries entries + 1
  | .held _ => 1
def uptoBulkAll {H : Type} : List (DataW H) → Nat
  | [] => 0
  | d :: r => uptoBulk d + uptoBulkAll r
def uptoBulkEntries {H : Type} : List (Lit × DataW H) → Nat
  | [] => 0
  | x :: r => uptoBulkEntry x + uptoBulkEntries r
def uptoBulkEntry {H : Type} : Lit × DataW H → Nat
  | (.string bytes, d) => bytes.length + uptoBulk d + 1
  | (_, d) => uptoBulk d + 1
 end
def uptoSmall : (H : Type) → List (DataW H) → Bool := fun _ ds => decide (uptoBulkAll ds ≤ 1048576)
def OpenSpec.upto (s : _root_.Go.ChangeSpec) : _root_.Go.OpenSpec := { _root_.Go.OpenSpec.ofChange s with cond := some uptoSmall }

/-- 'laws.FnExactIsCover', WHERE WHAT IT READS IS OF BULK AT MOST 1048576: true; the input reads as it did. -/
def fnExactIsCoverUptoRow : OpenClaim := { program := "ytahkpjebkelmfaa", sum := "b1ca47ef869a6f14b37d497ffeafcb1c4de9fb33a591d02d1912f3190aeb6b84", func := "loop.example/g01005/laws.FnExactIsCover", spec := "fnExactIsCover", unfollowed := true, recurses := true, apart := false, narrowed := true }
def FnExactIsCoverUptoSaid : Prop := fnExactIsCoverUptoRow.holds Try.pinned (OpenSpec.upto fnExactIsCoverSpec)

/-- 'laws.FnExactIsSimplicial', WHERE WHAT IT READS IS OF BULK AT MOST 1048576: true; the input reads as it did. -/
def fnExactIsSimplicialUptoRow : OpenClaim := { program := "ytahkpjebkelmfaa", sum := "b1ca47ef869a6f14b37d497ffeafcb1c4de9fb33a591d02d1912f3190aeb6b84", func := "loop.example/g01005/laws.FnExactIsSimplicial", spec := "fnExactIsSimplicial", unfollowed := true, recurses := true, apart := false, narrowed := true }
def FnExactIsSimplicialUptoSaid : Prop := fnExactIsSimplicialUptoRow.holds Try.pinned (OpenSpec.upto fnExactIsSimplicialSpec)

/-- 'laws.FnExactMeetComplex', WHERE WHAT IT READS IS OF BULK AT MOST 1048576: true; the input reads as it did. -/
def fnExactMeetComplexUptoRow : OpenClaim := { program := "ytahkpjebkelmfaa", sum := "b1ca47ef869a6f14b37d497ffeafcb1c4de9fb33a591d02d1912f3190aeb6b84", func := "loop.example/g01005/laws.FnExactMeetComplex", spec := "fnExactMeetComplex", unfollowed := true, recurses := true, apart := false, narrowed := true }
def FnExactMeetComplexUptoSaid : Prop := fnExactMeetComplexUptoRow.holds Try.pinned (OpenSpec.upto fnExactMeetComplexSpec)

/-- 'laws.FnExactUnionComplex', WHERE WHAT IT READS IS OF BULK AT MOST 1048576: true; the input reads as it did. -/
def fnExactUnionComplexUptoRow : OpenClaim := { program := "ytahkpjebkelmfaa", sum := "b1ca47ef869a6f14b37d497ffeafcb1c4de9fb33a591d02d1912f3190aeb6b84", func := "loop.example/g01005/laws.FnExactUnionComplex", spec := "fnExactUnionComplex", unfollowed := true, recurses := true, apart := false, narrowed := true }
def FnExactUnionComplexUptoSaid : Prop := fnExactUnionComplexUptoRow.holds Try.pinned (OpenSpec.upto fnExactUnionComplexSpec)

end Rows
end Go.Proofs.Ytahkpjebkelmfaa
