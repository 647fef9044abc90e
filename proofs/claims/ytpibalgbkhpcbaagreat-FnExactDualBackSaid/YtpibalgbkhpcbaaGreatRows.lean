/-
  No cell of these rows narrows 'for every input' (looked for: loops, veiled, ifaces, maps, wideKeys, modest, calm, conditions, laid).
  DERIVED. THE GIVEN ROWS OF THIS SEAT. 3 by the template 'for every input the law returns true; each argument reads behind the call as it read before'; 0 by the template 'total and deterministic' (their statements: YtpibalgbkhpcbaaGreatTotals.lean).
  GIVEN WITH THE SEED: the statements are not yours to turn. If you find one false, say at which input.
  Laid BY PROGRAM, IN A SANDBOX (cutbox-rows.mjs): the forced cells as the released guide's own fill.sh prints them over the translation 4fc415a336b20205… (all of the seat's roots in one cut). By AI agents, Wed Nov 11 2026. No macro, syntax, notation, axiom, sorry.
-/
import Derived.Test.YtpibalgbkhpcbaaGreatChecked
import GoSem.Claim
import GoSem.ClaimJoined
import GoSem.ClaimMapViews
import Derived.JoinedTies
import Derived.KernelRfl
namespace Go.Proofs.YtpibalgbkhpcbaaGreat
/- THE CELL 'sum', in the pinned program and in every row, IS THE sha256 OF THE DUMP (.gsa) THAT YtpibalgbkhpcbaaGreatProg.lean LOADS. Nothing in Lean hashes anything: it is a label: what it is worth is what the hold of that sum in a sandbox is worth. -/
noncomputable def Tryz.pinned : Pinned := { name := "ytpibalgbkhpcbaagreat", sum := "4fc415a336b2020552b63950c18320b6dc5512925484af72e474c48c9a01ba26", checked := Tryz.checked }
namespace Rows
def none {H : Type} : Left H := { results := [], args := [] }

/-- 'laws.FnExactDualOf': WHATEVER THE INPUT: true; the input reads as it did. -/
def fnExactDualOfSpec : ChangeSpec := { name := "fnExactDualOf", fn := fun _ => fun
  | [d] => { results := [.lit (.bool true)], args := [d] }
  | _ => none }
def fnExactDualOfRow : OpenClaim := { program := "ytpibalgbkhpcbaagreat", sum := "4fc415a336b2020552b63950c18320b6dc5512925484af72e474c48c9a01ba26", func := "loop.example/g01005/laws.FnExactDualOf", spec := "fnExactDualOf", unfollowed := true, recurses := true, apart := false }
def FnExactDualOfSaid : Prop := fnExactDualOfRow.holds Tryz.pinned (OpenSpec.ofChange fnExactDualOfSpec)

/-- ITS FALSE NEIGHBOUR: 'it returns false'. Refute it at one input. -/
def fnExactDualOfWrong : ChangeSpec := { name := "fnExactDualOf", fn := fun _ => fun
  | [d] => { results := [.lit (.bool false)], args := [d] }
  | _ => none }
def FnExactDualOfWrongFalsely : Prop := fnExactDualOfRow.holds Tryz.pinned (OpenSpec.ofChange fnExactDualOfWrong)

/-- 'laws.FnExactDualBack': WHATEVER THE INPUT: true; the input reads as it did. -/
def fnExactDualBackSpec : ChangeSpec := { name := "fnExactDualBack", fn := fun _ => fun
  | [d] => { results := [.lit (.bool true)], args := [d] }
  | _ => none }
def fnExactDualBackRow : OpenClaim := { program := "ytpibalgbkhpcbaagreat", sum := "4fc415a336b2020552b63950c18320b6dc5512925484af72e474c48c9a01ba26", func := "loop.example/g01005/laws.FnExactDualBack", spec := "fnExactDualBack", unfollowed := true, recurses := true, apart := false }
def FnExactDualBackSaid : Prop := fnExactDualBackRow.holds Tryz.pinned (OpenSpec.ofChange fnExactDualBackSpec)

/-- ITS FALSE NEIGHBOUR: 'it returns false'. Refute it at one input. -/
def fnExactDualBackWrong : ChangeSpec := { name := "fnExactDualBack", fn := fun _ => fun
  | [d] => { results := [.lit (.bool false)], args := [d] }
  | _ => none }
def FnExactDualBackWrongFalsely : Prop := fnExactDualBackRow.holds Tryz.pinned (OpenSpec.ofChange fnExactDualBackWrong)

/-- 'laws.FnExactPairOf': WHATEVER THE INPUT: true; the input reads as it did. -/
def fnExactPairOfSpec : ChangeSpec := { name := "fnExactPairOf", fn := fun _ => fun
  | [d1, d2, d3, d4] => { results := [.lit (.bool true)], args := [d1, d2, d3, d4] }
  | _ => none }
def fnExactPairOfRow : OpenClaim := { program := "ytpibalgbkhpcbaagreat", sum := "4fc415a336b2020552b63950c18320b6dc5512925484af72e474c48c9a01ba26", func := "loop.example/g01005/laws.FnExactPairOf", spec := "fnExactPairOf", unfollowed := true, recurses := true, apart := false }
def FnExactPairOfSaid : Prop := fnExactPairOfRow.holds Tryz.pinned (OpenSpec.ofChange fnExactPairOfSpec)

/-- ITS FALSE NEIGHBOUR: 'it returns false'. Refute it at one input. -/
def fnExactPairOfWrong : ChangeSpec := { name := "fnExactPairOf", fn := fun _ => fun
  | [d1, d2, d3, d4] => { results := [.lit (.bool false)], args := [d1, d2, d3, d4] }
  | _ => none }
def FnExactPairOfWrongFalsely : Prop := fnExactPairOfRow.holds Tryz.pinned (OpenSpec.ofChange fnExactPairOfWrong)

/- THE SECOND FORM. 'bulk': how many values and letters a reading holds, each counted each time it is reached (what is shared counts as often as it is met; a slice's spare places count too). A statement '..UptoSaid' is the law's where the arguments, and the package variables that the reading takes, are together of bulk at most 1048576: NARROWER than '..Said'. Prove '..Said' where nothing that the law and all that it calls make is longer than what came in: it says more and counts as full. Else prove '..UptoSaid'. A law counts once. -/
mutual
def uptoBulk {H : Type} : DataW H → Nat
  | .lit (.string bytes) => bytes.length + 1
  | .lit _ => 1
  | .nil => 1
  | .ptr d => uptoBulk d + 1
  | .slice elems spare => uptoBulkAll elems + uptoBulkAll spare + 1
  | .agg parts => uptoBulkAll parts + 1
  | .iface _ d => uptoBulk d + 1
  | .map entries => uptoBulkEntries entries + 1
  | .held _ => 1
def uptoBulkAll {H : Type} : List (DataW H) → Nat
  | [] => 0
  | d :: r => uptoBulk d + uptoBulkAll r
def uptoBulkEntries {H : Type} : List (Lit × DataW H) → Nat
  | [] => 0
  | x :: r => uptoBulkEntry x + uptoBulkEntries r
def uptoBulkEntry {H : Type} : Lit × DataW H → Nat
  | (.string bytes, d) => bytes.length + uptoBulk d + 1
  | (_, d) => uptoBulk d + 1
 end
def uptoSmall : (H : Type) → List (DataW H) → Bool := fun _ ds => decide (uptoBulkAll ds ≤ 1048576)
def OpenSpec.upto (s : _root_.Go.ChangeSpec) : _root_.Go.OpenSpec := { _root_.Go.OpenSpec.ofChange s with cond := some uptoSmall }

/-- 'laws.FnExactDualOf', WHERE WHAT IT READS IS OF BULK AT MOST 1048576: true; the input reads as it did. -/
def fnExactDualOfUptoRow : OpenClaim := { program := "ytpibalgbkhpcbaagreat", sum := "4fc415a336b2020552b63950c18320b6dc5512925484af72e474c48c9a01ba26", func := "loop.example/g01005/laws.FnExactDualOf", spec := "fnExactDualOf", unfollowed := true, recurses := true, apart := false, narrowed := true }
def FnExactDualOfUptoSaid : Prop := fnExactDualOfUptoRow.holds Tryz.pinned (OpenSpec.upto fnExactDualOfSpec)

/-- 'laws.FnExactDualBack', WHERE WHAT IT READS IS OF BULK AT MOST 1048576: true; the input reads as it did. -/
def fnExactDualBackUptoRow : OpenClaim := { program := "ytpibalgbkhpcbaagreat", sum := "4fc415a336b2020552b63950c18320b6dc5512925484af72e474c48c9a01ba26", func := "loop.example/g01005/laws.FnExactDualBack", spec := "fnExactDualBack", unfollowed := true, recurses := true, apart := false, narrowed := true }
def FnExactDualBackUptoSaid : Prop := fnExactDualBackUptoRow.holds Tryz.pinned (OpenSpec.upto fnExactDualBackSpec)

/-- 'laws.FnExactPairOf', WHERE WHAT IT READS IS OF BULK AT MOST 1048576: true; the input reads as it did. -/
def fnExactPairOfUptoRow : OpenClaim := { program := "ytpibalgbkhpcbaagreat", sum := "4fc415a336b2020552b63950c18320b6dc5512925484af72e474c48c9a01ba26", func := "loop.example/g01005/laws.FnExactPairOf", spec := "fnExactPairOf", unfollowed := true, recurses := true, apart := false, narrowed := true }
def FnExactPairOfUptoSaid : Prop := fnExactPairOfUptoRow.holds Tryz.pinned (OpenSpec.upto fnExactPairOfSpec)

end Rows
end Go.Proofs.YtpibalgbkhpcbaaGreat
