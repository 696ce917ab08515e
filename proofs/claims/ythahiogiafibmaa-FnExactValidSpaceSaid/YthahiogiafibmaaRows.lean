/-
  No cell of these rows narrows 'for every input' (looked for: loops, veiled, ifaces, maps, wideKeys, modest, calm, conditions, laid).
  DERIVED. THE GIVEN ROWS OF THIS SEAT. 12 by the template 'for every input the law returns true; each argument reads behind the call as it read before'; 0 by the template 'total and deterministic' (their statements: YthahiogiafibmaaTotals.lean).
  GIVEN WITH THE SEED: the statements are not yours to turn. If you find one false, say at which input.
  Laid BY PROGRAM, IN A SANDBOX (cutbox-rows.mjs): the forced cells as the released guide's own fill.sh prints them over the translation da84d0c0423ca632… (all of the seat's roots in one cut). By AI agents, Wed Nov 11 2026. No macro, syntax, notation, axiom, sorry.
-/
import Derived.Test.YthahiogiafibmaaChecked
import GoSem.Claim
import GoSem.ClaimJoined
import GoSem.ClaimMapViews
import Derived.JoinedTies
import Derived.KernelRfl
namespace Go.Proofs.Ythahiogiafibmaa
/- THE CELL 'sum', in the pinned program and in every row, IS THE sha256 OF THE DUMP (.gsa) THAT YthahiogiafibmaaProg.lean LOADS. Nothing in Lean hashes anything: it is a label: what it is worth is what the hold of that sum in a sandbox is worth. -/
noncomputable def Try.pinned : Pinned := { name := "ythahiogiafibmaa", sum := "da84d0c0423ca6328fee0609b015c9938fe936a0f56140a9d2d19b69a1a07c27", checked := Try.checked }
namespace Rows
def none {H : Type} : Left H := { results := [], args := [] }

/-- 'laws.FnExactTallyOf': WHATEVER THE INPUT: true; the input reads as it did. -/
def fnExactTallyOfSpec : ChangeSpec := { name := "fnExactTallyOf", fn := fun _ => fun
  | [d1, d2] => { results := [.lit (.bool true)], args := [d1, d2] }
  | _ => none }
def fnExactTallyOfRow : OpenClaim := { program := "ythahiogiafibmaa", sum := "da84d0c0423ca6328fee0609b015c9938fe936a0f56140a9d2d19b69a1a07c27", func := "loop.example/g01112/laws.FnExactTallyOf", spec := "fnExactTallyOf", inPlace := ["slices.overlaps[int64]"], unfollowed := true, recurses := true, apart := false }
def FnExactTallyOfSaid : Prop := fnExactTallyOfRow.holds Try.pinned (OpenSpec.ofChange fnExactTallyOfSpec)

/-- ITS FALSE NEIGHBOUR: 'it returns false'. Refute it at one input. -/
def fnExactTallyOfWrong : ChangeSpec := { name := "fnExactTallyOf", fn := fun _ => fun
  | [d1, d2] => { results := [.lit (.bool false)], args := [d1, d2] }
  | _ => none }
def FnExactTallyOfWrongFalsely : Prop := fnExactTallyOfRow.holds Try.pinned (OpenSpec.ofChange fnExactTallyOfWrong)

/-- 'laws.FnExactStepPolicy': WHATEVER THE INPUT: true; the input reads as it did. -/
def fnExactStepPolicySpec : ChangeSpec := { name := "fnExactStepPolicy", fn := fun _ => fun
  | [d1, d2, d3] => { results := [.lit (.bool true)], args := [d1, d2, d3] }
  | _ => none }
def fnExactStepPolicyRow : OpenClaim := { program := "ythahiogiafibmaa", sum := "da84d0c0423ca6328fee0609b015c9938fe936a0f56140a9d2d19b69a1a07c27", func := "loop.example/g01112/laws.FnExactStepPolicy", spec := "fnExactStepPolicy", unfollowed := true, recurses := true, apart := false }
def FnExactStepPolicySaid : Prop := fnExactStepPolicyRow.holds Try.pinned (OpenSpec.ofChange fnExactStepPolicySpec)

/-- ITS FALSE NEIGHBOUR: 'it returns false'. Refute it at one input. -/
def fnExactStepPolicyWrong : ChangeSpec := { name := "fnExactStepPolicy", fn := fun _ => fun
  | [d1, d2, d3] => { results := [.lit (.bool false)], args := [d1, d2, d3] }
  | _ => none }
def FnExactStepPolicyWrongFalsely : Prop := fnExactStepPolicyRow.holds Try.pinned (OpenSpec.ofChange fnExactStepPolicyWrong)

/-- 'laws.FnExactAccuracyOf': WHATEVER THE INPUT: true; the input reads as it did. -/
def fnExactAccuracyOfSpec : ChangeSpec := { name := "fnExactAccuracyOf", fn := fun _ => fun
  | [d1, d2] => { results := [.lit (.bool true)], args := [d1, d2] }
  | _ => none }
def fnExactAccuracyOfRow : OpenClaim := { program := "ythahiogiafibmaa", sum := "da84d0c0423ca6328fee0609b015c9938fe936a0f56140a9d2d19b69a1a07c27", func := "loop.example/g01112/laws.FnExactAccuracyOf", spec := "fnExactAccuracyOf", inPlace := ["slices.overlaps[int64]"], unfollowed := true, recurses := true, apart := false }
def FnExactAccuracyOfSaid : Prop := fnExactAccuracyOfRow.holds Try.pinned (OpenSpec.ofChange fnExactAccuracyOfSpec)

/-- ITS FALSE NEIGHBOUR: 'it returns false'. Refute it at one input. -/
def fnExactAccuracyOfWrong : ChangeSpec := { name := "fnExactAccuracyOf", fn := fun _ => fun
  | [d1, d2] => { results := [.lit (.bool false)], args := [d1, d2] }
  | _ => none }
def FnExactAccuracyOfWrongFalsely : Prop := fnExactAccuracyOfRow.holds Try.pinned (OpenSpec.ofChange fnExactAccuracyOfWrong)

/-- 'laws.FnExactCoverageOf': WHATEVER THE INPUT: true; the input reads as it did. -/
def fnExactCoverageOfSpec : ChangeSpec := { name := "fnExactCoverageOf", fn := fun _ => fun
  | [d1, d2] => { results := [.lit (.bool true)], args := [d1, d2] }
  | _ => none }
def fnExactCoverageOfRow : OpenClaim := { program := "ythahiogiafibmaa", sum := "da84d0c0423ca6328fee0609b015c9938fe936a0f56140a9d2d19b69a1a07c27", func := "loop.example/g01112/laws.FnExactCoverageOf", spec := "fnExactCoverageOf", inPlace := ["slices.overlaps[int64]"], unfollowed := true, recurses := true, apart := false }
def FnExactCoverageOfSaid : Prop := fnExactCoverageOfRow.holds Try.pinned (OpenSpec.ofChange fnExactCoverageOfSpec)

/-- ITS FALSE NEIGHBOUR: 'it returns false'. Refute it at one input. -/
def fnExactCoverageOfWrong : ChangeSpec := { name := "fnExactCoverageOf", fn := fun _ => fun
  | [d1, d2] => { results := [.lit (.bool false)], args := [d1, d2] }
  | _ => none }
def FnExactCoverageOfWrongFalsely : Prop := fnExactCoverageOfRow.holds Try.pinned (OpenSpec.ofChange fnExactCoverageOfWrong)

/-- 'laws.FnExactOutcomesOf': WHATEVER THE INPUT: true; the input reads as it did. -/
def fnExactOutcomesOfSpec : ChangeSpec := { name := "fnExactOutcomesOf", fn := fun _ => fun
  | [d1, d2] => { results := [.lit (.bool true)], args := [d1, d2] }
  | _ => none }
def fnExactOutcomesOfRow : OpenClaim := { program := "ythahiogiafibmaa", sum := "da84d0c0423ca6328fee0609b015c9938fe936a0f56140a9d2d19b69a1a07c27", func := "loop.example/g01112/laws.FnExactOutcomesOf", spec := "fnExactOutcomesOf", inPlace := ["slices.overlaps[int64]"], unfollowed := true, recurses := true, apart := false }
def FnExactOutcomesOfSaid : Prop := fnExactOutcomesOfRow.holds Try.pinned (OpenSpec.ofChange fnExactOutcomesOfSpec)

/-- ITS FALSE NEIGHBOUR: 'it returns false'. Refute it at one input. -/
def fnExactOutcomesOfWrong : ChangeSpec := { name := "fnExactOutcomesOf", fn := fun _ => fun
  | [d1, d2] => { results := [.lit (.bool false)], args := [d1, d2] }
  | _ => none }
def FnExactOutcomesOfWrongFalsely : Prop := fnExactOutcomesOfRow.holds Try.pinned (OpenSpec.ofChange fnExactOutcomesOfWrong)

/-- 'laws.FnExactIncludes': WHATEVER THE INPUT: true; the input reads as it did. -/
def fnExactIncludesSpec : ChangeSpec := { name := "fnExactIncludes", fn := fun _ => fun
  | [d1, d2, d3] => { results := [.lit (.bool true)], args := [d1, d2, d3] }
  | _ => none }
def fnExactIncludesRow : OpenClaim := { program := "ythahiogiafibmaa", sum := "da84d0c0423ca6328fee0609b015c9938fe936a0f56140a9d2d19b69a1a07c27", func := "loop.example/g01112/laws.FnExactIncludes", spec := "fnExactIncludes", unfollowed := true, recurses := true, apart := false }
def FnExactIncludesSaid : Prop := fnExactIncludesRow.holds Try.pinned (OpenSpec.ofChange fnExactIncludesSpec)

/-- ITS FALSE NEIGHBOUR: 'it returns false'. Refute it at one input. -/
def fnExactIncludesWrong : ChangeSpec := { name := "fnExactIncludes", fn := fun _ => fun
  | [d1, d2, d3] => { results := [.lit (.bool false)], args := [d1, d2, d3] }
  | _ => none }
def FnExactIncludesWrongFalsely : Prop := fnExactIncludesRow.holds Try.pinned (OpenSpec.ofChange fnExactIncludesWrong)

/-- 'laws.FnExactFirstBreak': WHATEVER THE INPUT: true; the input reads as it did. -/
def fnExactFirstBreakSpec : ChangeSpec := { name := "fnExactFirstBreak", fn := fun _ => fun
  | [d1, d2, d3] => { results := [.lit (.bool true)], args := [d1, d2, d3] }
  | _ => none }
def fnExactFirstBreakRow : OpenClaim := { program := "ythahiogiafibmaa", sum := "da84d0c0423ca6328fee0609b015c9938fe936a0f56140a9d2d19b69a1a07c27", func := "loop.example/g01112/laws.FnExactFirstBreak", spec := "fnExactFirstBreak", unfollowed := true, recurses := true, apart := false }
def FnExactFirstBreakSaid : Prop := fnExactFirstBreakRow.holds Try.pinned (OpenSpec.ofChange fnExactFirstBreakSpec)

/-- ITS FALSE NEIGHBOUR: 'it returns false'. Refute it at one input. -/
def fnExactFirstBreakWrong : ChangeSpec := { name := "fnExactFirstBreak", fn := fun _ => fun
  | [d1, d2, d3] => { results := [.lit (.bool false)], args := [d1, d2, d3] }
  | _ => none }
def FnExactFirstBreakWrongFalsely : Prop := fnExactFirstBreakRow.holds Try.pinned (OpenSpec.ofChange fnExactFirstBreakWrong)

/-- 'laws.FnLruIncluded': WHATEVER THE INPUT: true; the input reads as it did. -/
def fnLruIncludedSpec : ChangeSpec := { name := "fnLruIncluded", fn := fun _ => fun
  | [d1, d2] => { results := [.lit (.bool true)], args := [d1, d2] }
  | _ => none }
def fnLruIncludedRow : OpenClaim := { program := "ythahiogiafibmaa", sum := "da84d0c0423ca6328fee0609b015c9938fe936a0f56140a9d2d19b69a1a07c27", func := "loop.example/g01112/laws.FnLruIncluded", spec := "fnLruIncluded", inPlace := ["slices.overlaps[int64]"], unfollowed := true, recurses := true, apart := false }
def FnLruIncludedSaid : Prop := fnLruIncludedRow.holds Try.pinned (OpenSpec.ofChange fnLruIncludedSpec)

/-- ITS FALSE NEIGHBOUR: 'it returns false'. Refute it at one input. -/
def fnLruIncludedWrong : ChangeSpec := { name := "fnLruIncluded", fn := fun _ => fun
  | [d1, d2] => { results := [.lit (.bool false)], args := [d1, d2] }
  | _ => none }
def FnLruIncludedWrongFalsely : Prop := fnLruIncludedRow.holds Try.pinned (OpenSpec.ofChange fnLruIncludedWrong)

/-- 'laws.FnExactValidSpace': WHATEVER THE INPUT: true; the input reads as it did. -/
def fnExactValidSpaceSpec : ChangeSpec := { name := "fnExactValidSpace", fn := fun _ => fun
  | [d] => { results := [.lit (.bool true)], args := [d] }
  | _ => none }
def fnExactValidSpaceRow : OpenClaim := { program := "ythahiogiafibmaa", sum := "da84d0c0423ca6328fee0609b015c9938fe936a0f56140a9d2d19b69a1a07c27", func := "loop.example/g01112/laws.FnExactValidSpace", spec := "fnExactValidSpace", unfollowed := true, recurses := true, apart := false }
def FnExactValidSpaceSaid : Prop := fnExactValidSpaceRow.holds Try.pinned (OpenSpec.ofChange fnExactValidSpaceSpec)

/-- ITS FALSE NEIGHBOUR: 'it returns false'. Refute it at one input. -/
def fnExactValidSpaceWrong : ChangeSpec := { name := "fnExactValidSpace", fn := fun _ => fun
  | [d] => { results := [.lit (.bool false)], args := [d] }
  | _ => none }
def FnExactValidSpaceWrongFalsely : Prop := fnExactValidSpaceRow.holds Try.pinned (OpenSpec.ofChange fnExactValidSpaceWrong)

/-- 'laws.FnReads': WHATEVER THE INPUT: true; the input reads as it did. -/
def fnReadsSpec : ChangeSpec := { name := "fnReads", fn := fun _ => fun
  | [d1, d2] => { results := [.lit (.bool true)], args := [d1, d2] }
  | _ => none }
def fnReadsRow : OpenClaim := { program := "ythahiogiafibmaa", sum := "da84d0c0423ca6328fee0609b015c9938fe936a0f56140a9d2d19b69a1a07c27", func := "loop.example/g01112/laws.FnReads", spec := "fnReads", unfollowed := true, recurses := true, apart := false }
def FnReadsSaid : Prop := fnReadsRow.holds Try.pinned (OpenSpec.ofChange fnReadsSpec)

/-- ITS FALSE NEIGHBOUR: 'it returns false'. Refute it at one input. -/
def fnReadsWrong : ChangeSpec := { name := "fnReads", fn := fun _ => fun
  | [d1, d2] => { results := [.lit (.bool false)], args := [d1, d2] }
  | _ => none }
def FnReadsWrongFalsely : Prop := fnReadsRow.holds Try.pinned (OpenSpec.ofChange fnReadsWrong)

/-- 'laws.FnExactBufferAgrees': WHATEVER THE INPUT: true; the input reads as it did. -/
def fnExactBufferAgreesSpec : ChangeSpec := { name := "fnExactBufferAgrees", fn := fun _ => fun
  | [d] => { results := [.lit (.bool true)], args := [d] }
  | _ => none }
def fnExactBufferAgreesRow : OpenClaim := { program := "ythahiogiafibmaa", sum := "da84d0c0423ca6328fee0609b015c9938fe936a0f56140a9d2d19b69a1a07c27", func := "loop.example/g01112/laws.FnExactBufferAgrees", spec := "fnExactBufferAgrees", unfollowed := true, recurses := true, apart := false }
def FnExactBufferAgreesSaid : Prop := fnExactBufferAgreesRow.holds Try.pinned (OpenSpec.ofChange fnExactBufferAgreesSpec)

/-- ITS FALSE NEIGHBOUR: 'it returns false'. Refute it at one input. -/
def fnExactBufferAgreesWrong : ChangeSpec := { name := "fnExactBufferAgrees", fn := fun _ => fun
  | [d] => { results := [.lit (.bool false)], args := [d] }
  | _ => none }
def FnExactBufferAgreesWrongFalsely : Prop := fnExactBufferAgreesRow.holds Try.pinned (OpenSpec.ofChange fnExactBufferAgreesWrong)

/-- 'laws.FnExactWalkPage': WHATEVER THE INPUT: true; the input reads as it did. -/
def fnExactWalkPageSpec : ChangeSpec := { name := "fnExactWalkPage", fn := fun _ => fun
  | [d1, d2] => { results := [.lit (.bool true)], args := [d1, d2] }
  | _ => none }
def fnExactWalkPageRow : OpenClaim := { program := "ythahiogiafibmaa", sum := "da84d0c0423ca6328fee0609b015c9938fe936a0f56140a9d2d19b69a1a07c27", func := "loop.example/g01112/laws.FnExactWalkPage", spec := "fnExactWalkPage", unfollowed := true, recurses := true, apart := false }
def FnExactWalkPageSaid : Prop := fnExactWalkPageRow.holds Try.pinned (OpenSpec.ofChange fnExactWalkPageSpec)

/-- ITS FALSE NEIGHBOUR: 'it returns false'. Refute it at one input. -/
def fnExactWalkPageWrong : ChangeSpec := { name := "fnExactWalkPage", fn := fun _ => fun
  | [d1, d2] => { results := [.lit (.bool false)], args := [d1, d2] }
  | _ => none }
def FnExactWalkPageWrongFalsely : Prop := fnExactWalkPageRow.holds Try.pinned (OpenSpec.ofChange fnExactWalkPageWrong)

/- THE SECOND FORM. 'bulk': how many values and letters a reading holds, each counted each time it is reached (what is shared counts as often as it is met; a slice's spare places count too). A statement '..UptoSaid' is the law's where the arguments, and the package variables that the reading takes, are together of bulk at most 1048576: NARROWER than '..Said'. Prove '..Said' where nothing that the law and all that it calls make is longer than what came in: it says more and counts as full. Else prove '..UptoSaid'. A law counts once. -/
mutual
def uptoBulk {H : Type} : DataW H → Nat
  | .lit (.string bytes) => bytes.length + 1
  | .lit _ => 1
  | .nil => 1
  | .ptr d => uptoBulk d + 1
  | .slice elems spare => uptoBulkAll elems + uptoBulkAll spare + 1
  | .agg parts => uptoBulkAll parts + 1
  | .iface _ d => uptoBulk d + 1
  | .map entries => uptoBulkEntries entries + 1
  | .held _ => 1
def uptoBulkAll {H : Type} : List (DataW H) → Nat
  | [] => 0
  | d :: r => uptoBulk d + uptoBulkAll r
def uptoBulkEntries {H : Type} : List (Lit × DataW H) → Nat
  | [] => 0
  | x :: r => uptoBulkEntry x + uptoBulkEntries r
def uptoBulkEntry {H : Type} : Lit × DataW H → Nat
  | (.string bytes, d) => bytes.length + uptoBulk d + 1
  | (_, d) => uptoBulk d + 1
 end
def uptoSmall : (H : Type) → List (DataW H) → Bool := fun _ ds => decide (uptoBulkAll ds ≤ 1048576)
def OpenSpec.upto (s : _root_.Go.ChangeSpec) : _root_.Go.OpenSpec := { _root_.Go.OpenSpec.ofChange s with cond := some uptoSmall }

/-- 'laws.FnExactTallyOf', WHERE WHAT IT READS IS OF BULK AT MOST 1048576: true; the input reads as it did. -/
def fnExactTallyOfUptoRow : OpenClaim := { program := "ythahiogiafibmaa", sum := "da84d0c0423ca6328fee0609b015c9938fe936a0f56140a9d2d19b69a1a07c27", func := "loop.example/g01112/laws.FnExactTallyOf", spec := "fnExactTallyOf", inPlace := ["slices.overlaps[int64]"], unfollowed := true, recurses := true, apart := false, narrowed := true }
def FnExactTallyOfUptoSaid : Prop := fnExactTallyOfUptoRow.holds Try.pinned (OpenSpec.upto fnExactTallyOfSpec)

/-- 'laws.FnExactStepPolicy', WHERE WHAT IT READS IS OF BULK AT MOST 1048576: true; the input reads as it did. -/
def fnExactStepPolicyUptoRow : OpenClaim := { program := "ythahiogiafibmaa", sum := "da84d0c0423ca6328fee0609b015c9938fe936a0f56140a9d2d19b69a1a07c27", func := "loop.example/g01112/laws.FnExactStepPolicy", spec := "fnExactStepPolicy", unfollowed := true, recurses := true, apart := false, narrowed := true }
def FnExactStepPolicyUptoSaid : Prop := fnExactStepPolicyUptoRow.holds Try.pinned (OpenSpec.upto fnExactStepPolicySpec)

/-- 'laws.FnExactAccuracyOf', WHERE WHAT IT READS IS OF BULK AT MOST 1048576: true; the input reads as it did. -/
def fnExactAccuracyOfUptoRow : OpenClaim := { program := "ythahiogiafibmaa", sum := "da84d0c0423ca6328fee0609b015c9938fe936a0f56140a9d2d19b69a1a07c27", func := "loop.example/g01112/laws.FnExactAccuracyOf", spec := "fnExactAccuracyOf", inPlace := ["slices.overlaps[int64]"], unfollowed := true, recurses := true, apart := false, narrowed := true }
def FnExactAccuracyOfUptoSaid : Prop := fnExactAccuracyOfUptoRow.holds Try.pinned (OpenSpec.upto fnExactAccuracyOfSpec)

/-- 'laws.FnExactCoverageOf', WHERE WHAT IT READS IS OF BULK AT MOST 1048576: true; the input reads as it did. -/
def fnExactCoverageOfUptoRow : OpenClaim := { program := "ythahiogiafibmaa", sum := "da84d0c0423ca6328fee0609b015c9938fe936a0f56140a9d2d19b69a1a07c27", func := "loop.example/g01112/laws.FnExactCoverageOf", spec := "fnExactCoverageOf", inPlace := ["slices.overlaps[int64]"], unfollowed := true, recurses := true, apart := false, narrowed := true }
def FnExactCoverageOfUptoSaid : Prop := fnExactCoverageOfUptoRow.holds Try.pinned (OpenSpec.upto fnExactCoverageOfSpec)

/-- 'laws.FnExactOutcomesOf', WHERE WHAT IT READS IS OF BULK AT MOST 1048576: true; the input reads as it did. -/
def fnExactOutcomesOfUptoRow : OpenClaim := { program := "ythahiogiafibmaa", sum := "da84d0c0423ca6328fee0609b015c9938fe936a0f56140a9d2d19b69a1a07c27", func := "loop.example/g01112/laws.FnExactOutcomesOf", spec := "fnExactOutcomesOf", inPlace := ["slices.overlaps[int64]"], unfollowed := true, recurses := true, apart := false, narrowed := true }
def FnExactOutcomesOfUptoSaid : Prop := fnExactOutcomesOfUptoRow.holds Try.pinned (OpenSpec.upto fnExactOutcomesOfSpec)

/-- 'laws.FnExactIncludes', WHERE WHAT IT READS IS OF BULK AT MOST 1048576: true; the input reads as it did. -/
def fnExactIncludesUptoRow : OpenClaim := { program := "ythahiogiafibmaa", sum := "da84d0c0423ca6328fee0609b015c9938fe936a0f56140a9d2d19b69a1a07c27", func := "loop.example/g01112/laws.FnExactIncludes", spec := "fnExactIncludes", unfollowed := true, recurses := true, apart := false, narrowed := true }
def FnExactIncludesUptoSaid : Prop := fnExactIncludesUptoRow.holds Try.pinned (OpenSpec.upto fnExactIncludesSpec)

/-- 'laws.FnExactFirstBreak', WHERE WHAT IT READS IS OF BULK AT MOST 1048576: true; the input reads as it did. -/
def fnExactFirstBreakUptoRow : OpenClaim := { program := "ythahiogiafibmaa", sum := "da84d0c0423ca6328fee0609b015c9938fe936a0f56140a9d2d19b69a1a07c27", func := "loop.example/g01112/laws.FnExactFirstBreak", spec := "fnExactFirstBreak", unfollowed := true, recurses := true, apart := false, narrowed := true }
def FnExactFirstBreakUptoSaid : Prop := fnExactFirstBreakUptoRow.holds Try.pinned (OpenSpec.upto fnExactFirstBreakSpec)

/-- 'laws.FnLruIncluded', WHERE WHAT IT READS IS OF BULK AT MOST 1048576: true; the input reads as it did. -/
def fnLruIncludedUptoRow : OpenClaim := { program := "ythahiogiafibmaa", sum := "da84d0c0423ca6328fee0609b015c9938fe936a0f56140a9d2d19b69a1a07c27", func := "loop.example/g01112/laws.FnLruIncluded", spec := "fnLruIncluded", inPlace := ["slices.overlaps[int64]"], unfollowed := true, recurses := true, apart := false, narrowed := true }
def FnLruIncludedUptoSaid : Prop := fnLruIncludedUptoRow.holds Try.pinned (OpenSpec.upto fnLruIncludedSpec)

/-- 'laws.FnExactValidSpace', WHERE WHAT IT READS IS OF BULK AT MOST 1048576: true; the input reads as it did. -/
def fnExactValidSpaceUptoRow : OpenClaim := { program := "ythahiogiafibmaa", sum := "da84d0c0423ca6328fee0609b015c9938fe936a0f56140a9d2d19b69a1a07c27", func := "loop.example/g01112/laws.FnExactValidSpace", spec := "fnExactValidSpace", unfollowed := true, recurses := true, apart := false, narrowed := true }
def FnExactValidSpaceUptoSaid : Prop := fnExactValidSpaceUptoRow.holds Try.pinned (OpenSpec.upto fnExactValidSpaceSpec)

/-- 'laws.FnReads', WHERE WHAT IT READS IS OF BULK AT MOST 1048576: true; the input reads as it did. -/
def fnReadsUptoRow : OpenClaim := { program := "ythahiogiafibmaa", sum := "da84d0c0423ca6328fee0609b015c9938fe936a0f56140a9d2d19b69a1a07c27", func := "loop.example/g01112/laws.FnReads", spec := "fnReads", unfollowed := true, recurses := true, apart := false, narrowed := true }
def FnReadsUptoSaid : Prop := fnReadsUptoRow.holds Try.pinned (OpenSpec.upto fnReadsSpec)

/-- 'laws.FnExactBufferAgrees', WHERE WHAT IT READS IS OF BULK AT MOST 1048576: true; the input reads as it did. -/
def fnExactBufferAgreesUptoRow : OpenClaim := { program := "ythahiogiafibmaa", sum := "da84d0c0423ca6328fee0609b015c9938fe936a0f56140a9d2d19b69a1a07c27", func := "loop.example/g01112/laws.FnExactBufferAgrees", spec := "fnExactBufferAgrees", unfollowed := true, recurses := true, apart := false, narrowed := true }
def FnExactBufferAgreesUptoSaid : Prop := fnExactBufferAgreesUptoRow.holds Try.pinned (OpenSpec.upto fnExactBufferAgreesSpec)

/-- 'laws.FnExactWalkPage', WHERE WHAT IT READS IS OF BULK AT MOST 1048576: true; the input reads as it did. -/
def fnExactWalkPageUptoRow : OpenClaim := { program := "ythahiogiafibmaa", sum := "da84d0c0423ca6328fee0609b015c9938fe936a0f56140a9d2d19b69a1a07c27", func := "loop.example/g01112/laws.FnExactWalkPage", spec := "fnExactWalkPage", unfollowed := true, recurses := true, apart := false, narrowed := true }
def FnExactWalkPageUptoSaid : Prop := fnExactWalkPageUptoRow.holds Try.pinned (OpenSpec.upto fnExactWalkPageSpec)

end Rows
end Go.Proofs.Ythahiogiafibmaa
