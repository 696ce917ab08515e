/-
  No cell of these rows narrows 'for every input' (looked for: loops, veiled, ifaces, maps, wideKeys, modest, calm, conditions, laid).
  DERIVED. THE GIVEN ROWS OF THIS SEAT. 8 by the template 'for every input the law returns true; each argument reads behind the call as it read before'; 0 by the template 'total and deterministic' (their statements: YtpooojgeonpmnaaTotals.lean).
  GIVEN WITH THE SEED: the statements are not yours to turn. If you find one false, say at which input.
  Laid BY PROGRAM, IN A SANDBOX (cutbox-rows.mjs): the forced cells as the released guide's own fill.sh prints them over the translation 4cff82f193fb5ecf… (all of the seat's roots in one cut). By AI agents, Wed Nov 11 2026. No macro, syntax, notation, axiom, sorry.
-/
import Derived.Test.YtpooojgeonpmnaaChecked
import GoSem.Claim
import GoSem.ClaimJoined
import GoSem.ClaimMapViews
import Derived.JoinedTies
import Derived.KernelRfl
namespace Go.Proofs.Ytpooojgeonpmnaa
/- THE CELL 'sum', in the pinned program and in every row, IS THE sha256 OF THE DUMP (.gsa) THAT YtpooojgeonpmnaaProg.lean LOADS. Nothing in Lean hashes anything: it is a label: what it is worth is what the hold of that sum in a sandbox is worth. -/
noncomputable def Try.pinned : Pinned := { name := "ytpooojgeonpmnaa", sum := "4cff82f193fb5ecf4c76d6adf3aea0c16dcabdc7acb76123ad5e5e91975db73a", checked := Try.checked }
namespace Rows
def none {H : Type} : Left H := { results := [], args := [] }

/-- 'laws.FnStrided': WHATEVER THE INPUT: true; the input reads as it did. -/
def fnStridedSpec : ChangeSpec := { name := "fnStrided", fn := fun _ => fun
  | [d1, d2] => { results := [.lit (.bool true)], args := [d1, d2] }
  | _ => none }
def fnStridedRow : OpenClaim := { program := "ytpooojgeonpmnaa", sum := "4cff82f193fb5ecf4c76d6adf3aea0c16dcabdc7acb76123ad5e5e91975db73a", func := "loop.example/g01112/laws.FnStrided", spec := "fnStrided", inPlace := ["slices.overlaps[int64]"], unfollowed := true, recurses := true, apart := false }
def FnStridedSaid : Prop := fnStridedRow.holds Try.pinned (OpenSpec.ofChange fnStridedSpec)

/-- ITS FALSE NEIGHBOUR: 'it returns false'. Refute it at one input. -/
def fnStridedWrong : ChangeSpec := { name := "fnStrided", fn := fun _ => fun
  | [d1, d2] => { results := [.lit (.bool false)], args := [d1, d2] }
  | _ => none }
def FnStridedWrongFalsely : Prop := fnStridedRow.holds Try.pinned (OpenSpec.ofChange fnStridedWrong)

/-- 'laws.FnDegrees': WHATEVER THE INPUT: true; the input reads as it did. -/
def fnDegreesSpec : ChangeSpec := { name := "fnDegrees", fn := fun _ => fun
  | [d1, d2] => { results := [.lit (.bool true)], args := [d1, d2] }
  | _ => none }
def fnDegreesRow : OpenClaim := { program := "ytpooojgeonpmnaa", sum := "4cff82f193fb5ecf4c76d6adf3aea0c16dcabdc7acb76123ad5e5e91975db73a", func := "loop.example/g01112/laws.FnDegrees", spec := "fnDegrees", inPlace := ["slices.overlaps[int64]"], unfollowed := true, recurses := true, apart := false }
def FnDegreesSaid : Prop := fnDegreesRow.holds Try.pinned (OpenSpec.ofChange fnDegreesSpec)

/-- ITS FALSE NEIGHBOUR: 'it returns false'. Refute it at one input. -/
def fnDegreesWrong : ChangeSpec := { name := "fnDegrees", fn := fun _ => fun
  | [d1, d2] => { results := [.lit (.bool false)], args := [d1, d2] }
  | _ => none }
def FnDegreesWrongFalsely : Prop := fnDegreesRow.holds Try.pinned (OpenSpec.ofChange fnDegreesWrong)

/-- 'laws.FnDemand': WHATEVER THE INPUT: true; the input reads as it did. -/
def fnDemandSpec : ChangeSpec := { name := "fnDemand", fn := fun _ => fun
  | [d1, d2] => { results := [.lit (.bool true)], args := [d1, d2] }
  | _ => none }
def fnDemandRow : OpenClaim := { program := "ytpooojgeonpmnaa", sum := "4cff82f193fb5ecf4c76d6adf3aea0c16dcabdc7acb76123ad5e5e91975db73a", func := "loop.example/g01112/laws.FnDemand", spec := "fnDemand", unfollowed := true, recurses := true, apart := false }
def FnDemandSaid : Prop := fnDemandRow.holds Try.pinned (OpenSpec.ofChange fnDemandSpec)

/-- ITS FALSE NEIGHBOUR: 'it returns false'. Refute it at one input. -/
def fnDemandWrong : ChangeSpec := { name := "fnDemand", fn := fun _ => fun
  | [d1, d2] => { results := [.lit (.bool false)], args := [d1, d2] }
  | _ => none }
def FnDemandWrongFalsely : Prop := fnDemandRow.holds Try.pinned (OpenSpec.ofChange fnDemandWrong)

/-- 'laws.FnExactBestDegree': WHATEVER THE INPUT: true; the input reads as it did. -/
def fnExactBestDegreeSpec : ChangeSpec := { name := "fnExactBestDegree", fn := fun _ => fun
  | [d1, d2] => { results := [.lit (.bool true)], args := [d1, d2] }
  | _ => none }
def fnExactBestDegreeRow : OpenClaim := { program := "ytpooojgeonpmnaa", sum := "4cff82f193fb5ecf4c76d6adf3aea0c16dcabdc7acb76123ad5e5e91975db73a", func := "loop.example/g01112/laws.FnExactBestDegree", spec := "fnExactBestDegree", inPlace := ["slices.overlaps[int64]"], unfollowed := true, recurses := true, apart := false }
def FnExactBestDegreeSaid : Prop := fnExactBestDegreeRow.holds Try.pinned (OpenSpec.ofChange fnExactBestDegreeSpec)

/-- ITS FALSE NEIGHBOUR: 'it returns false'. Refute it at one input. -/
def fnExactBestDegreeWrong : ChangeSpec := { name := "fnExactBestDegree", fn := fun _ => fun
  | [d1, d2] => { results := [.lit (.bool false)], args := [d1, d2] }
  | _ => none }
def FnExactBestDegreeWrongFalsely : Prop := fnExactBestDegreeRow.holds Try.pinned (OpenSpec.ofChange fnExactBestDegreeWrong)

/-- 'laws.FnExactTallyOf': WHATEVER THE INPUT: true; the input reads as it did. -/
def fnExactTallyOfSpec : ChangeSpec := { name := "fnExactTallyOf", fn := fun _ => fun
  | [d1, d2] => { results := [.lit (.bool true)], args := [d1, d2] }
  | _ => none }
def fnExactTallyOfRow : OpenClaim := { program := "ytpooojgeonpmnaa", sum := "4cff82f193fb5ecf4c76d6adf3aea0c16dcabdc7acb76123ad5e5e91975db73a", func := "loop.example/g01112/laws.FnExactTallyOf", spec := "fnExactTallyOf", inPlace := ["slices.overlaps[int64]"], unfollowed := true, recurses := true, apart := false }
def FnExactTallyOfSaid : Prop := fnExactTallyOfRow.holds Try.pinned (OpenSpec.ofChange fnExactTallyOfSpec)

/-- ITS FALSE NEIGHBOUR: 'it returns false'. Refute it at one input. -/
def fnExactTallyOfWrong : ChangeSpec := { name := "fnExactTallyOf", fn := fun _ => fun
  | [d1, d2] => { results := [.lit (.bool false)], args := [d1, d2] }
  | _ => none }
def FnExactTallyOfWrongFalsely : Prop := fnExactTallyOfRow.holds Try.pinned (OpenSpec.ofChange fnExactTallyOfWrong)

/-- 'laws.FnExactAccuracyOf': WHATEVER THE INPUT: true; the input reads as it did. -/
def fnExactAccuracyOfSpec : ChangeSpec := { name := "fnExactAccuracyOf", fn := fun _ => fun
  | [d1, d2] => { results := [.lit (.bool true)], args := [d1, d2] }
  | _ => none }
def fnExactAccuracyOfRow : OpenClaim := { program := "ytpooojgeonpmnaa", sum := "4cff82f193fb5ecf4c76d6adf3aea0c16dcabdc7acb76123ad5e5e91975db73a", func := "loop.example/g01112/laws.FnExactAccuracyOf", spec := "fnExactAccuracyOf", inPlace := ["slices.overlaps[int64]"], unfollowed := true, recurses := true, apart := false }
def FnExactAccuracyOfSaid : Prop := fnExactAccuracyOfRow.holds Try.pinned (OpenSpec.ofChange fnExactAccuracyOfSpec)

/-- ITS FALSE NEIGHBOUR: 'it returns false'. Refute it at one input. -/
def fnExactAccuracyOfWrong : ChangeSpec := { name := "fnExactAccuracyOf", fn := fun _ => fun
  | [d1, d2] => { results := [.lit (.bool false)], args := [d1, d2] }
  | _ => none }
def FnExactAccuracyOfWrongFalsely : Prop := fnExactAccuracyOfRow.holds Try.pinned (OpenSpec.ofChange fnExactAccuracyOfWrong)

/-- 'laws.FnExactCoverageOf': WHATEVER THE INPUT: true; the input reads as it did. -/
def fnExactCoverageOfSpec : ChangeSpec := { name := "fnExactCoverageOf", fn := fun _ => fun
  | [d1, d2] => { results := [.lit (.bool true)], args := [d1, d2] }
  | _ => none }
def fnExactCoverageOfRow : OpenClaim := { program := "ytpooojgeonpmnaa", sum := "4cff82f193fb5ecf4c76d6adf3aea0c16dcabdc7acb76123ad5e5e91975db73a", func := "loop.example/g01112/laws.FnExactCoverageOf", spec := "fnExactCoverageOf", inPlace := ["slices.overlaps[int64]"], unfollowed := true, recurses := true, apart := false }
def FnExactCoverageOfSaid : Prop := fnExactCoverageOfRow.holds Try.pinned (OpenSpec.ofChange fnExactCoverageOfSpec)

/-- ITS FALSE NEIGHBOUR: 'it returns false'. Refute it at one input. -/
def fnExactCoverageOfWrong : ChangeSpec := { name := "fnExactCoverageOf", fn := fun _ => fun
  | [d1, d2] => { results := [.lit (.bool false)], args := [d1, d2] }
  | _ => none }
def FnExactCoverageOfWrongFalsely : Prop := fnExactCoverageOfRow.holds Try.pinned (OpenSpec.ofChange fnExactCoverageOfWrong)

/-- 'laws.FnExactOutcomesOf': WHATEVER THE INPUT: true; the input reads as it did. -/
def fnExactOutcomesOfSpec : ChangeSpec := { name := "fnExactOutcomesOf", fn := fun _ => fun
  | [d1, d2] => { results := [.lit (.bool true)], args := [d1, d2] }
  | _ => none }
def fnExactOutcomesOfRow : OpenClaim := { program := "ytpooojgeonpmnaa", sum := "4cff82f193fb5ecf4c76d6adf3aea0c16dcabdc7acb76123ad5e5e91975db73a", func := "loop.example/g01112/laws.FnExactOutcomesOf", spec := "fnExactOutcomesOf", inPlace := ["slices.overlaps[int64]"], unfollowed := true, recurses := true, apart := false }
def FnExactOutcomesOfSaid : Prop := fnExactOutcomesOfRow.holds Try.pinned (OpenSpec.ofChange fnExactOutcomesOfSpec)

/-- ITS FALSE NEIGHBOUR: 'it returns false'. Refute it at one input. -/
def fnExactOutcomesOfWrong : ChangeSpec := { name := "fnExactOutcomesOf", fn := fun _ => fun
  | [d1, d2] => { results := [.lit (.bool false)], args := [d1, d2] }
  | _ => none }
def FnExactOutcomesOfWrongFalsely : Prop := fnExactOutcomesOfRow.holds Try.pinned (OpenSpec.ofChange fnExactOutcomesOfWrong)

/- THE SECOND FORM. 'bulk': how many values and letters a reading holds, each counted each time it is reached (what is shared counts as often as it is met; a slice's spare places count too). A statement '..UptoSaid' is the law's where the arguments, and the package variables that the reading takes, are together of bulk at most 1048576: NARROWER than '..Said'. Prove '..Said' where nothing that the law and all that it calls make is longer than what came in: it says more and counts as full. Else prove '..UptoSaid'. A law counts once. -/
mutual
def uptoBulk {H : Type} : DataW H → Nat
  | .lit (.string bytes) => bytes.length + 1
  | .lit _ => 1
  | .nil => 1
  | .ptr d => uptoBulk d + 1
  | .slice elems spare => uptoBulkAll elems + uptoBulkAll spare + 1
  | .agg parts => uptoBulkAll parts + 1
  | .iface _ d => uptoBulk d + 1
  | .map entries => uptoBulkEntries entries + 1
  | .held _ => 1
def uptoBulkAll {H : Type} : List (DataW H) → Nat
  | [] => 0
  | d :: r => uptoBulk d + uptoBulkAll r
def uptoBulkEntries {H : Type} : List (Lit × DataW H) → Nat
  | [] => 0
  | x :: r => uptoBulkEntry x + uptoBulkEntries r
def uptoBulkEntry {H : Type} : Lit × DataW H → Nat
  | (.string bytes, d) => bytes.length + uptoBulk d + 1
  | (_, d) => uptoBulk d + 1
 end
def uptoSmall : (H : Type) → List (DataW H) → Bool := fun _ ds => decide (uptoBulkAll ds ≤ 1048576)
def OpenSpec.upto (s : _root_.Go.ChangeSpec) : _root_.Go.OpenSpec := { _root_.Go.OpenSpec.ofChange s with cond := some uptoSmall }

/-- 'laws.FnStrided', WHERE WHAT IT READS IS OF BULK AT MOST 1048576: true; the input reads as it did. -/
def fnStridedUptoRow : OpenClaim := { program := "ytpooojgeonpmnaa", sum := "4cff82f193fb5ecf4c76d6adf3aea0c16dcabdc7acb76123ad5e5e91975db73a", func := "loop.example/g01112/laws.FnStrided", spec := "fnStrided", inPlace := ["slices.overlaps[int64]"], unfollowed := true, recurses := true, apart := false, narrowed := true }
def FnStridedUptoSaid : Prop := fnStridedUptoRow.holds Try.pinned (OpenSpec.upto fnStridedSpec)

/-- 'laws.FnDegrees', WHERE WHAT IT READS IS OF BULK AT MOST 1048576: true; the input reads as it did. -/
def fnDegreesUptoRow : OpenClaim := { program := "ytpooojgeonpmnaa", sum := "4cff82f193fb5ecf4c76d6adf3aea0c16dcabdc7acb76123ad5e5e91975db73a", func := "loop.example/g01112/laws.FnDegrees", spec := "fnDegrees", inPlace := ["slices.overlaps[int64]"], unfollowed := true, recurses := true, apart := false, narrowed := true }
def FnDegreesUptoSaid : Prop := fnDegreesUptoRow.holds Try.pinned (OpenSpec.upto fnDegreesSpec)

/-- 'laws.FnDemand', WHERE WHAT IT READS IS OF BULK AT MOST 1048576: true; the input reads as it did. -/
def fnDemandUptoRow : OpenClaim := { program := "ytpooojgeonpmnaa", sum := "4cff82f193fb5ecf4c76d6adf3aea0c16dcabdc7acb76123ad5e5e91975db73a", func := "loop.example/g01112/laws.FnDemand", spec := "fnDemand", unfollowed := true, recurses := true, apart := false, narrowed := true }
def FnDemandUptoSaid : Prop := fnDemandUptoRow.holds Try.pinned (OpenSpec.upto fnDemandSpec)

/-- 'laws.FnExactBestDegree', WHERE WHAT IT READS IS OF BULK AT MOST 1048576: true; the input reads as it did. -/
def fnExactBestDegreeUptoRow : OpenClaim := { program := "ytpooojgeonpmnaa", sum := "4cff82f193fb5ecf4c76d6adf3aea0c16dcabdc7acb76123ad5e5e91975db73a", func := "loop.example/g01112/laws.FnExactBestDegree", spec := "fnExactBestDegree", inPlace := ["slices.overlaps[int64]"], unfollowed := true, recurses := true, apart := false, narrowed := true }
def FnExactBestDegreeUptoSaid : Prop := fnExactBestDegreeUptoRow.holds Try.pinned (OpenSpec.upto fnExactBestDegreeSpec)

/-- 'laws.FnExactTallyOf', WHERE WHAT IT READS IS OF BULK AT MOST 1048576: true; the input reads as it did. -/
def fnExactTallyOfUptoRow : OpenClaim := { program := "ytpooojgeonpmnaa", sum := "4cff82f193fb5ecf4c76d6adf3aea0c16dcabdc7acb76123ad5e5e91975db73a", func := "loop.example/g01112/laws.FnExactTallyOf", spec := "fnExactTallyOf", inPlace := ["slices.overlaps[int64]"], unfollowed := true, recurses := true, apart := false, narrowed := true }
def FnExactTallyOfUptoSaid : Prop := fnExactTallyOfUptoRow.holds Try.pinned (OpenSpec.upto fnExactTallyOfSpec)

/-- 'laws.FnExactAccuracyOf', WHERE WHAT IT READS IS OF BULK AT MOST 1048576: true; the input reads as it did. -/
def fnExactAccuracyOfUptoRow : OpenClaim := { program := "ytpooojgeonpmnaa", sum := "4cff82f193fb5ecf4c76d6adf3aea0c16dcabdc7acb76123ad5e5e91975db73a", func := "loop.example/g01112/laws.FnExactAccuracyOf", spec := "fnExactAccuracyOf", inPlace := ["slices.overlaps[int64]"], unfollowed := true, recurses := true, apart := false, narrowed := true }
def FnExactAccuracyOfUptoSaid : Prop := fnExactAccuracyOfUptoRow.holds Try.pinned (OpenSpec.upto fnExactAccuracyOfSpec)

/-- 'laws.FnExactCoverageOf', WHERE WHAT IT READS IS OF BULK AT MOST 1048576: true; the input reads as it did. -/
def fnExactCoverageOfUptoRow : OpenClaim := { program := "ytpooojgeonpmnaa", sum := "4cff82f193fb5ecf4c76d6adf3aea0c16dcabdc7acb76123ad5e5e91975db73a", func := "loop.example/g01112/laws.FnExactCoverageOf", spec := "fnExactCoverageOf", inPlace := ["slices.overlaps[int64]"], unfollowed := true, recurses := true, apart := false, narrowed := true }
def FnExactCoverageOfUptoSaid : Prop := fnExactCoverageOfUptoRow.holds Try.pinned (OpenSpec.upto fnExactCoverageOfSpec)

/-- 'laws.FnExactOutcomesOf', WHERE WHAT IT READS IS OF BULK AT MOST 1048576: true; the input reads as it did. -/
def fnExactOutcomesOfUptoRow : OpenClaim := { program := "ytpooojgeonpmnaa", sum := "4cff82f193fb5ecf4c76d6adf3aea0c16dcabdc7acb76123ad5e5e91975db73a", func := "loop.example/g01112/laws.FnExactOutcomesOf", spec := "fnExactOutcomesOf", inPlace := ["slices.overlaps[int64]"], unfollowed := true, recurses := true, apart := false, narrowed := true }
def FnExactOutcomesOfUptoSaid : Prop := fnExactOutcomesOfUptoRow.holds Try.pinned (OpenSpec.upto fnExactOutcomesOfSpec)

end Rows
end Go.Proofs.Ytpooojgeonpmnaa
