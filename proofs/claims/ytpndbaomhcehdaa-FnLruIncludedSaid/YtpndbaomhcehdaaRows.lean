/-
  No cell of these rows narrows 'for every input' (looked for: loops, veiled, ifaces, maps, wideKeys, modest, calm, conditions, laid).
  DERIVED. THE GIVEN ROWS OF THIS SEAT. 6 by the template 'for every input the law returns true; each argument reads behind the call as it read before'; 0 by the template 'total and deterministic' (their statements: YtpndbaomhcehdaaTotals.lean).
  GIVEN WITH THE SEED: the statements are not yours to turn. If you find one false, say at which input.
  Laid BY PROGRAM, IN A SANDBOX (cutbox-rows.mjs): the forced cells as the released guide's own fill.sh prints them over the translation 66c67c1e0bd8e747… (all of the seat's roots in one cut). By AI agents, Wed Nov 11 2026. No macro, syntax, notation, axiom, sorry.
-/
import Derived.Test.YtpndbaomhcehdaaChecked
import GoSem.Claim
import GoSem.ClaimJoined
import GoSem.ClaimMapViews
import Derived.JoinedTies
import Derived.KernelRfl
namespace Go.Proofs.Ytpndbaomhcehdaa
/- THE CELL 'sum', in the pinned program and in every row, IS THE sha256 OF THE DUMP (.gsa) THAT YtpndbaomhcehdaaProg.lean LOADS. Nothing in Lean hashes anything: it is a label: what it is worth is what the hold of that sum in a sandbox is worth. -/
noncomputable def Try.pinned : Pinned := { name := "ytpndbaomhcehdaa", sum := "66c67c1e0bd8e747082330e291313a0f769a0fbe5173eba7912e3aa1b882e994", checked := Try.checked }
namespace Rows
def none {H : Type} : Left H := { results := [], args := [] }

/-- 'laws.FnLruIncluded': WHATEVER THE INPUT: true; the input reads as it did. -/
def fnLruIncludedSpec : ChangeSpec := { name := "fnLruIncluded", fn := fun _ => fun
  | [d1, d2] => { results := [.lit (.bool true)], args := [d1, d2] }
  | _ => none }
def fnLruIncludedRow : OpenClaim := { program := "ytpndbaomhcehdaa", sum := "66c67c1e0bd8e747082330e291313a0f769a0fbe5173eba7912e3aa1b882e994", func := "loop.example/g01112/laws.FnLruIncluded", spec := "fnLruIncluded", inPlace := ["slices.overlaps[int64]"], unfollowed := true, recurses := true, apart := false }
def FnLruIncludedSaid : Prop := fnLruIncludedRow.holds Try.pinned (OpenSpec.ofChange fnLruIncludedSpec)

/-- ITS FALSE NEIGHBOUR: 'it returns false'. Refute it at one input. -/
def fnLruIncludedWrong : ChangeSpec := { name := "fnLruIncluded", fn := fun _ => fun
  | [d1, d2] => { results := [.lit (.bool false)], args := [d1, d2] }
  | _ => none }
def FnLruIncludedWrongFalsely : Prop := fnLruIncludedRow.holds Try.pinned (OpenSpec.ofChange fnLruIncludedWrong)

/-- 'laws.FnReads': WHATEVER THE INPUT: true; the input reads as it did. -/
def fnReadsSpec : ChangeSpec := { name := "fnReads", fn := fun _ => fun
  | [d1, d2] => { results := [.lit (.bool true)], args := [d1, d2] }
  | _ => none }
def fnReadsRow : OpenClaim := { program := "ytpndbaomhcehdaa", sum := "66c67c1e0bd8e747082330e291313a0f769a0fbe5173eba7912e3aa1b882e994", func := "loop.example/g01112/laws.FnReads", spec := "fnReads", unfollowed := true, recurses := true, apart := false }
def FnReadsSaid : Prop := fnReadsRow.holds Try.pinned (OpenSpec.ofChange fnReadsSpec)

/-- ITS FALSE NEIGHBOUR: 'it returns false'. Refute it at one input. -/
def fnReadsWrong : ChangeSpec := { name := "fnReads", fn := fun _ => fun
  | [d1, d2] => { results := [.lit (.bool false)], args := [d1, d2] }
  | _ => none }
def FnReadsWrongFalsely : Prop := fnReadsRow.holds Try.pinned (OpenSpec.ofChange fnReadsWrong)

/-- 'laws.FnExactBackInvalidations': WHATEVER THE INPUT: true; the input reads as it did. -/
def fnExactBackInvalidationsSpec : ChangeSpec := { name := "fnExactBackInvalidations", fn := fun _ => fun
  | [d1, d2] => { results := [.lit (.bool true)], args := [d1, d2] }
  | _ => none }
def fnExactBackInvalidationsRow : OpenClaim := { program := "ytpndbaomhcehdaa", sum := "66c67c1e0bd8e747082330e291313a0f769a0fbe5173eba7912e3aa1b882e994", func := "loop.example/g01112/laws.FnExactBackInvalidations", spec := "fnExactBackInvalidations", unfollowed := true, recurses := true, apart := false }
def FnExactBackInvalidationsSaid : Prop := fnExactBackInvalidationsRow.holds Try.pinned (OpenSpec.ofChange fnExactBackInvalidationsSpec)

/-- ITS FALSE NEIGHBOUR: 'it returns false'. Refute it at one input. -/
def fnExactBackInvalidationsWrong : ChangeSpec := { name := "fnExactBackInvalidations", fn := fun _ => fun
  | [d1, d2] => { results := [.lit (.bool false)], args := [d1, d2] }
  | _ => none }
def FnExactBackInvalidationsWrongFalsely : Prop := fnExactBackInvalidationsRow.holds Try.pinned (OpenSpec.ofChange fnExactBackInvalidationsWrong)

/-- 'laws.FnExactLevelContents': WHATEVER THE INPUT: true; the input reads as it did. -/
def fnExactLevelContentsSpec : ChangeSpec := { name := "fnExactLevelContents", fn := fun _ => fun
  | [d1, d2] => { results := [.lit (.bool true)], args := [d1, d2] }
  | _ => none }
def fnExactLevelContentsRow : OpenClaim := { program := "ytpndbaomhcehdaa", sum := "66c67c1e0bd8e747082330e291313a0f769a0fbe5173eba7912e3aa1b882e994", func := "loop.example/g01112/laws.FnExactLevelContents", spec := "fnExactLevelContents", unfollowed := true, recurses := true, apart := false }
def FnExactLevelContentsSaid : Prop := fnExactLevelContentsRow.holds Try.pinned (OpenSpec.ofChange fnExactLevelContentsSpec)

/-- ITS FALSE NEIGHBOUR: 'it returns false'. Refute it at one input. -/
def fnExactLevelContentsWrong : ChangeSpec := { name := "fnExactLevelContents", fn := fun _ => fun
  | [d1, d2] => { results := [.lit (.bool false)], args := [d1, d2] }
  | _ => none }
def FnExactLevelContentsWrongFalsely : Prop := fnExactLevelContentsRow.holds Try.pinned (OpenSpec.ofChange fnExactLevelContentsWrong)

/-- 'laws.FnExactRunLevels': WHATEVER THE INPUT: true; the input reads as it did. -/
def fnExactRunLevelsSpec : ChangeSpec := { name := "fnExactRunLevels", fn := fun _ => fun
  | [d1, d2] => { results := [.lit (.bool true)], args := [d1, d2] }
  | _ => none }
def fnExactRunLevelsRow : OpenClaim := { program := "ytpndbaomhcehdaa", sum := "66c67c1e0bd8e747082330e291313a0f769a0fbe5173eba7912e3aa1b882e994", func := "loop.example/g01112/laws.FnExactRunLevels", spec := "fnExactRunLevels", unfollowed := true, recurses := true, apart := false }
def FnExactRunLevelsSaid : Prop := fnExactRunLevelsRow.holds Try.pinned (OpenSpec.ofChange fnExactRunLevelsSpec)

/-- ITS FALSE NEIGHBOUR: 'it returns false'. Refute it at one input. -/
def fnExactRunLevelsWrong : ChangeSpec := { name := "fnExactRunLevels", fn := fun _ => fun
  | [d1, d2] => { results := [.lit (.bool false)], args := [d1, d2] }
  | _ => none }
def FnExactRunLevelsWrongFalsely : Prop := fnExactRunLevelsRow.holds Try.pinned (OpenSpec.ofChange fnExactRunLevelsWrong)

/-- 'laws.FnExactTrafficOf': WHATEVER THE INPUT: true; the input reads as it did. -/
def fnExactTrafficOfSpec : ChangeSpec := { name := "fnExactTrafficOf", fn := fun _ => fun
  | [d1, d2] => { results := [.lit (.bool true)], args := [d1, d2] }
  | _ => none }
def fnExactTrafficOfRow : OpenClaim := { program := "ytpndbaomhcehdaa", sum := "66c67c1e0bd8e747082330e291313a0f769a0fbe5173eba7912e3aa1b882e994", func := "loop.example/g01112/laws.FnExactTrafficOf", spec := "fnExactTrafficOf", unfollowed := true, recurses := true, apart := false }
def FnExactTrafficOfSaid : Prop := fnExactTrafficOfRow.holds Try.pinned (OpenSpec.ofChange fnExactTrafficOfSpec)

/-- ITS FALSE NEIGHBOUR: 'it returns false'. Refute it at one input. -/
def fnExactTrafficOfWrong : ChangeSpec := { name := "fnExactTrafficOf", fn := fun _ => fun
  | [d1, d2] => { results := [.lit (.bool false)], args := [d1, d2] }
  | _ => none }
def FnExactTrafficOfWrongFalsely : Prop := fnExactTrafficOfRow.holds Try.pinned (OpenSpec.ofChange fnExactTrafficOfWrong)

/- THE SECOND FORM. 'bulk': how many values and letters a reading holds, each counted each time it is reached (what is shared counts as often as it is met; a slice's spare places count too). A statement '..UptoSaid' is the law's where the arguments, and the package variables that the reading takes, are together of bulk at most 1048576: NARROWER than '..Said'. Prove '..Said' where nothing that the law and all that it calls make is longer than what came in: it says more and counts as full. Else prove '..UptoSaid'. A law counts once. -/
mutual
def uptoBulk {H : Type} : DataW H → Nat
  | .lit (.string bytes) => bytes.length + 1
  | .lit _ => 1
  | .nil => 1
  | .ptr d => uptoBulk d + 1
  | .slice elems spare => uptoBulkAll elems + uptoBulkAll spare + 1
  | .agg parts => uptoBulkAll parts + 1
  | .iface _ d => uptoBulk d + 1
  | .map entries => uptoBulkEntries entries + 1
  | .held _ => 1
def uptoBulkAll {H : Type} : List (DataW H) → Nat
  | [] => 0
  | d :: r => uptoBulk d + uptoBulkAll r
def uptoBulkEntries {H : Type} : List (Lit × DataW H) → Nat
  | [] => 0
  | x :: r => uptoBulkEntry x + uptoBulkEntries r
def uptoBulkEntry {H : Type} : Lit × DataW H → Nat
  | (.string bytes, d) => bytes.length + uptoBulk d + 1
  | (_, d) => uptoBulk d + 1
 end
def uptoSmall : (H : Type) → List (DataW H) → Bool := fun _ ds => decide (uptoBulkAll ds ≤ 1048576)
def OpenSpec.upto (s : _root_.Go.ChangeSpec) : _root_.Go.OpenSpec := { _root_.Go.OpenSpec.ofChange s with cond := some uptoSmall }

/-- 'laws.FnLruIncluded', WHERE WHAT IT READS IS OF BULK AT MOST 1048576: true; the input reads as it did. -/
def fnLruIncludedUptoRow : OpenClaim := { program := "ytpndbaomhcehdaa", sum := "66c67c1e0bd8e747082330e291313a0f769a0fbe5173eba7912e3aa1b882e994", func := "loop.example/g01112/laws.FnLruIncluded", spec := "fnLruIncluded", inPlace := ["slices.overlaps[int64]"], unfollowed := true, recurses := true, apart := false, narrowed := true }
def FnLruIncludedUptoSaid : Prop := fnLruIncludedUptoRow.holds Try.pinned (OpenSpec.upto fnLruIncludedSpec)

/-- 'laws.FnReads', WHERE WHAT IT READS IS OF BULK AT MOST 1048576: true; the input reads as it did. -/
def fnReadsUptoRow : OpenClaim := { program := "ytpndbaomhcehdaa", sum := "66c67c1e0bd8e747082330e291313a0f769a0fbe5173eba7912e3aa1b882e994", func := "loop.example/g01112/laws.FnReads", spec := "fnReads", unfollowed := true, recurses := true, apart := false, narrowed := true }
def FnReadsUptoSaid : Prop := fnReadsUptoRow.holds Try.pinned (OpenSpec.upto fnReadsSpec)

/-- 'laws.FnExactBackInvalidations', WHERE WHAT IT READS IS OF BULK AT MOST 1048576: true; the input reads as it did. -/
def fnExactBackInvalidationsUptoRow : OpenClaim := { program := "ytpndbaomhcehdaa", sum := "66c67c1e0bd8e747082330e291313a0f769a0fbe5173eba7912e3aa1b882e994", func := "loop.example/g01112/laws.FnExactBackInvalidations", spec := "fnExactBackInvalidations", unfollowed := true, recurses := true, apart := false, narrowed := true }
def FnExactBackInvalidationsUptoSaid : Prop := fnExactBackInvalidationsUptoRow.holds Try.pinned (OpenSpec.upto fnExactBackInvalidationsSpec)

/-- 'laws.FnExactLevelContents', WHERE WHAT IT READS IS OF BULK AT MOST 1048576: true; the input reads as it did. -/
def fnExactLevelContentsUptoRow : OpenClaim := { program := "ytpndbaomhcehdaa", sum := "66c67c1e0bd8e747082330e291313a0f769a0fbe5173eba7912e3aa1b882e994", func := "loop.example/g01112/laws.FnExactLevelContents", spec := "fnExactLevelContents", unfollowed := true, recurses := true, apart := false, narrowed := true }
def FnExactLevelContentsUptoSaid : Prop := fnExactLevelContentsUptoRow.holds Try.pinned (OpenSpec.upto fnExactLevelContentsSpec)

/-- 'laws.FnExactRunLevels', WHERE WHAT IT READS IS OF BULK AT MOST 1048576: true; the input reads as it did. -/
def fnExactRunLevelsUptoRow : OpenClaim := { program := "ytpndbaomhcehdaa", sum := "66c67c1e0bd8e747082330e291313a0f769a0fbe5173eba7912e3aa1b882e994", func := "loop.example/g01112/laws.FnExactRunLevels", spec := "fnExactRunLevels", unfollowed := true, recurses := true, apart := false, narrowed := true }
def FnExactRunLevelsUptoSaid : Prop := fnExactRunLevelsUptoRow.holds Try.pinned (OpenSpec.upto fnExactRunLevelsSpec)

/-- 'laws.FnExactTrafficOf', WHERE WHAT IT READS IS OF BULK AT MOST 1048576: true; the input reads as it did. -/
def fnExactTrafficOfUptoRow : OpenClaim := { program := "ytpndbaomhcehdaa", sum := "66c67c1e0bd8e747082330e291313a0f769a0fbe5173eba7912e3aa1b882e994", func := "loop.example/g01112/laws.FnExactTrafficOf", spec := "fnExactTrafficOf", unfollowed := true, recurses := true, apart := false, narrowed := true }
def FnExactTrafficOfUptoSaid : Prop := fnExactTrafficOfUptoRow.holds Try.pinned (OpenSpec.upto fnExactTrafficOfSpec)

end Rows
end Go.Proofs.Ytpndbaomhcehdaa
