/-
  No cell of these rows narrows 'for every input' (looked for: loops, veiled, ifaces, maps, wideKeys, modest, calm, conditions, laid).
  DERIVED. THE GIVEN ROWS OF THIS SEAT. 4 by the template 'for every input the law returns true; each argument reads behind the call as it read before'; 0 by the template 'total and deterministic' (their statements: YtanmmcfiogamfaaGreatTotals.lean).
  GIVEN WITH THE SEED: the statements are not yours to turn. If you find one false, say at which input.
  Laid BY PROGRAM, IN A SANDBOX (cutbox-rows.mjs): the forced cells as the released guide's own fill.sh prints them over the translation 641804bf146f4da4… (all of the seat's roots in one cut). By AI agents, Wed Nov 11 2026. No macro, syntax, notation, axiom, sorry.
-/
import Derived.Test.YtanmmcfiogamfaaGreatChecked
import GoSem.Claim
import GoSem.ClaimJoined
import GoSem.ClaimMapViews
import Derived.JoinedTies
import Derived.KernelRfl
namespace Go.Proofs.YtanmmcfiogamfaaGreat
/- THE CELL 'sum', in the pinned program and in every row, IS THE sha256 OF THE DUMP (.gsa) THAT YtanmmcfiogamfaaGreatProg.lean LOADS. Nothing in Lean hashes anything: it is a label: what it is worth is what the hold of that sum in a sandbox is worth. -/
noncomputable def Tryz.pinned : Pinned := { name := "ytanmmcfiogamfaagreat", sum := "641804bf146f4da49f61a501f59d1f3842b2e3041fdb47aa95c771b3be0ed924", checked := Tryz.checked }
namespace Rows
def none {H : Type} : Left H := { results := [], args := [] }

/-- 'laws.FnExactRestrictSheaf': WHATEVER THE INPUT: true; the input reads as it did. -/
def fnExactRestrictSheafSpec : ChangeSpec := { name := "fnExactRestrictSheaf", fn := fun _ => fun
  | [d1, d2] => { results := [.lit (.bool true)], args := [d1, d2] }
  | _ => none }
def fnExactRestrictSheafRow : OpenClaim := { program := "ytanmmcfiogamfaagreat", sum := "641804bf146f4da49f61a501f59d1f3842b2e3041fdb47aa95c771b3be0ed924", func := "loop.example/g01005/laws.FnExactRestrictSheaf", spec := "fnExactRestrictSheaf", unfollowed := true, recurses := true, apart := false }
def FnExactRestrictSheafSaid : Prop := fnExactRestrictSheafRow.holds Tryz.pinned (OpenSpec.ofChange fnExactRestrictSheafSpec)

/-- ITS FALSE NEIGHBOUR: 'it returns false'. Refute it at one input. -/
def fnExactRestrictSheafWrong : ChangeSpec := { name := "fnExactRestrictSheaf", fn := fun _ => fun
  | [d1, d2] => { results := [.lit (.bool false)], args := [d1, d2] }
  | _ => none }
def FnExactRestrictSheafWrongFalsely : Prop := fnExactRestrictSheafRow.holds Tryz.pinned (OpenSpec.ofChange fnExactRestrictSheafWrong)

/-- 'laws.FnExactDifferenceOf': WHATEVER THE INPUT: true; the input reads as it did. -/
def fnExactDifferenceOfSpec : ChangeSpec := { name := "fnExactDifferenceOf", fn := fun _ => fun
  | [d1, d2, d3, d4, d5] => { results := [.lit (.bool true)], args := [d1, d2, d3, d4, d5] }
  | _ => none }
def fnExactDifferenceOfRow : OpenClaim := { program := "ytanmmcfiogamfaagreat", sum := "641804bf146f4da49f61a501f59d1f3842b2e3041fdb47aa95c771b3be0ed924", func := "loop.example/g01005/laws.FnExactDifferenceOf", spec := "fnExactDifferenceOf", unfollowed := true, recurses := true, apart := false }
def FnExactDifferenceOfSaid : Prop := fnExactDifferenceOfRow.holds Tryz.pinned (OpenSpec.ofChange fnExactDifferenceOfSpec)

/-- ITS FALSE NEIGHBOUR: 'it returns false'. Refute it at one input. -/
def fnExactDifferenceOfWrong : ChangeSpec := { name := "fnExactDifferenceOf", fn := fun _ => fun
  | [d1, d2, d3, d4, d5] => { results := [.lit (.bool false)], args := [d1, d2, d3, d4, d5] }
  | _ => none }
def FnExactDifferenceOfWrongFalsely : Prop := fnExactDifferenceOfRow.holds Tryz.pinned (OpenSpec.ofChange fnExactDifferenceOfWrong)

/-- 'laws.FnExactGlueSections': WHATEVER THE INPUT: true; the input reads as it did. -/
def fnExactGlueSectionsSpec : ChangeSpec := { name := "fnExactGlueSections", fn := fun _ => fun
  | [d1, d2, d3, d4, d5] => { results := [.lit (.bool true)], args := [d1, d2, d3, d4, d5] }
  | _ => none }
def fnExactGlueSectionsRow : OpenClaim := { program := "ytanmmcfiogamfaagreat", sum := "641804bf146f4da49f61a501f59d1f3842b2e3041fdb47aa95c771b3be0ed924", func := "loop.example/g01005/laws.FnExactGlueSections", spec := "fnExactGlueSections", unfollowed := true, recurses := true, apart := false }
def FnExactGlueSectionsSaid : Prop := fnExactGlueSectionsRow.holds Tryz.pinned (OpenSpec.ofChange fnExactGlueSectionsSpec)

/-- ITS FALSE NEIGHBOUR: 'it returns false'. Refute it at one input. -/
def fnExactGlueSectionsWrong : ChangeSpec := { name := "fnExactGlueSections", fn := fun _ => fun
  | [d1, d2, d3, d4, d5] => { results := [.lit (.bool false)], args := [d1, d2, d3, d4, d5] }
  | _ => none }
def FnExactGlueSectionsWrongFalsely : Prop := fnExactGlueSectionsRow.holds Tryz.pinned (OpenSpec.ofChange fnExactGlueSectionsWrong)

/-- 'laws.FnExactConnectingCocycle': WHATEVER THE INPUT: true; the input reads as it did. -/
def fnExactConnectingCocycleSpec : ChangeSpec := { name := "fnExactConnectingCocycle", fn := fun _ => fun
  | [d1, d2, d3, d4] => { results := [.lit (.bool true)], args := [d1, d2, d3, d4] }
  | _ => none }
def fnExactConnectingCocycleRow : OpenClaim := { program := "ytanmmcfiogamfaagreat", sum := "641804bf146f4da49f61a501f59d1f3842b2e3041fdb47aa95c771b3be0ed924", func := "loop.example/g01005/laws.FnExactConnectingCocycle", spec := "fnExactConnectingCocycle", unfollowed := true, recurses := true, apart := false }
def FnExactConnectingCocycleSaid : Prop := fnExactConnectingCocycleRow.holds Tryz.pinned (OpenSpec.ofChange fnExactConnectingCocycleSpec)

/-- ITS FALSE NEIGHBOUR: 'it returns false'. Refute it at one input. -/
def fnExactConnectingCocycleWrong : ChangeSpec := { name := "fnExactConnectingCocycle", fn := fun _ => fun
  | [d1, d2, d3, d4] => { results := [.lit (.bool false)], args := [d1, d2, d3, d4] }
  | _ => none }
def FnExactConnectingCocycleWrongFalsely : Prop := fnExactConnectingCocycleRow.holds Tryz.pinned (OpenSpec.ofChange fnExactConnectingCocycleWrong)

/- THE SECOND FORM. 'bulk': how many values and letters a reading holds, each counted each time it is reached (what is shared counts as often as it is met; a slice's spare places count too). A statement '..UptoSaid' is the law's where the arguments, and the package variables that the reading takes, are together of bulk at most 1048576: NARROWER than '..Said'. Prove '..Said' where nothing that the law and all that it calls make is longer than what came in: it says more and counts as full. Else prove '..UptoSaid'. A law counts once. -/
mutual
def uptoBulk {H : Type} : DataW H → Nat
  | .lit (.string bytes) => bytes.length + 1
  | .lit _ => 1
  | .nil => 1
  | .ptr d => uptoBulk d + 1
  | .slice elems spare => uptoBulkAll elems + uptoBulkAll spare + 1
  | .agg parts => uptoBulkAll parts + 1
  | .iface _ d => uptoBulk d + 1
  | .map entries => uptoBulkEntries entries + 1
  | .held _ => 1
def uptoBulkAll {H : Type} : List (DataW H) → Nat
  | [] => 0
  | d :: r => uptoBulk d + uptoBulkAll r
def uptoBulkEntries {H : Type} : List (Lit × DataW H) → Nat
  | [] => 0
  | x :: r => uptoBulkEntry x + uptoBulkEntries r
def uptoBulkEntry {H : Type} : Lit × DataW H → Nat
  | (.string bytes, d) => bytes.length + uptoBulk d + 1
  | (_, d) => uptoBulk d + 1
 end
def uptoSmall : (H : Type) → List (DataW H) → Bool := fun _ ds => decide (uptoBulkAll ds ≤ 1048576)
def OpenSpec.upto (s : _root_.Go.ChangeSpec) : _root_.Go.OpenSpec := { _root_.Go.OpenSpec.ofChange s with cond := some uptoSmall }

/-- 'laws.FnExactRestrictSheaf', WHERE WHAT IT READS IS OF BULK AT MOST 1048576: true; the input reads as it did. -/
def fnExactRestrictSheafUptoRow : OpenClaim := { program := "ytanmmcfiogamfaagreat", sum := "641804bf146f4da49f61a501f59d1f3842b2e3041fdb47aa95c771b3be0ed924", func := "loop.example/g01005/laws.FnExactRestrictSheaf", spec := "fnExactRestrictSheaf", unfollowed := true, recurses := true, apart := false, narrowed := true }
def FnExactRestrictSheafUptoSaid : Prop := fnExactRestrictSheafUptoRow.holds Tryz.pinned (OpenSpec.upto fnExactRestrictSheafSpec)

/-- 'laws.FnExactDifferenceOf', WHERE WHAT IT READS IS OF BULK AT MOST 1048576: true; the input reads as it did. -/
def fnExactDifferenceOfUptoRow : OpenClaim := { program := "ytanmmcfiogamfaagreat", sum := "641804bf146f4da49f61a501f59d1f3842b2e3041fdb47aa95c771b3be0ed924", func := "loop.example/g01005/laws.FnExactDifferenceOf", spec := "fnExactDifferenceOf", unfollowed := true, recurses := true, apart := false, narrowed := true }
def FnExactDifferenceOfUptoSaid : Prop := fnExactDifferenceOfUptoRow.holds Tryz.pinned (OpenSpec.upto fnExactDifferenceOfSpec)

/-- 'laws.FnExactGlueSections', WHERE WHAT IT READS IS OF BULK AT MOST 1048576: true; the input reads as it did. -/
def fnExactGlueSectionsUptoRow : OpenClaim := { program := "ytanmmcfiogamfaagreat", sum := "641804bf146f4da49f61a501f59d1f3842b2e3041fdb47aa95c771b3be0ed924", func := "loop.example/g01005/laws.FnExactGlueSections", spec := "fnExactGlueSections", unfollowed := true, recurses := true, apart := false, narrowed := true }
def FnExactGlueSectionsUptoSaid : Prop := fnExactGlueSectionsUptoRow.holds Tryz.pinned (OpenSpec.upto fnExactGlueSectionsSpec)

/-- 'laws.FnExactConnectingCocycle', WHERE WHAT IT READS IS OF BULK AT MOST 1048576: true; the input reads as it did. -/
def fnExactConnectingCocycleUptoRow : OpenClaim := { program := "ytanmmcfiogamfaagreat", sum := "641804bf146f4da49f61a501f59d1f3842b2e3041fdb47aa95c771b3be0ed924", func := "loop.example/g01005/laws.FnExactConnectingCocycle", spec := "fnExactConnectingCocycle", unfollowed := true, recurses := true, apart := false, narrowed := true }
def FnExactConnectingCocycleUptoSaid : Prop := fnExactConnectingCocycleUptoRow.holds Tryz.pinned (OpenSpec.upto fnExactConnectingCocycleSpec)

end Rows
end Go.Proofs.YtanmmcfiogamfaaGreat
