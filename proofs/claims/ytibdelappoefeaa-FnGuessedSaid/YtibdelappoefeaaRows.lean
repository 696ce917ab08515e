/-
  No cell of these rows narrows 'for every input' (looked for: loops, veiled, ifaces, maps, wideKeys, modest, calm, conditions, laid).
  DERIVED. THE GIVEN ROWS OF THIS SEAT. 11 by the template 'for every input the law returns true; each argument reads behind the call as it read before'; 0 by the template 'total and deterministic' (their statements: YtibdelappoefeaaTotals.lean).
  GIVEN WITH THE SEED: the statements are not yours to turn. If you find one false, say at which input.
  Laid BY PROGRAM, IN A SANDBOX (cutbox-rows.mjs): the forced cells as the released guide's own fill.sh prints them over the translation c2be2961bd13cd60… (all of the seat's roots in one cut). By AI agents, Wed Nov 11 2026. No macro, syntax, notation, axiom, sorry.
-/
import Derived.Test.YtibdelappoefeaaChecked
import GoSem.Claim
import GoSem.ClaimJoined
import GoSem.ClaimMapViews
import Derived.JoinedTies
import Derived.KernelRfl
namespace Go.Proofs.Ytibdelappoefeaa
/- THE CELL 'sum', in the pinned program and in every row, IS THE sha256 OF THE DUMP (.gsa) THAT YtibdelappoefeaaProg.lean LOADS. Nothing in Lean hashes anything: it is a label: what it is worth is what the hold of that sum in a sandbox is worth. -/
noncomputable def Try.pinned : Pinned := { name := "ytibdelappoefeaa", sum := "c2be2961bd13cd60e766ca0ae39b87a2e2024ede212ec606af8d0a772bae4457", checked := Try.checked }
namespace Rows
def none {H : Type} : Left H := { results := [], args := [] }

/-- 'laws.FnShortestBreak': WHATEVER THE INPUT: true; the input reads as it did. -/
def fnShortestBreakSpec : ChangeSpec := { name := "fnShortestBreak", fn := fun _ => fun
  | [d1, d2] => { results := [.lit (.bool true)], args := [d1, d2] }
  | _ => none }
def fnShortestBreakRow : OpenClaim := { program := "ytibdelappoefeaa", sum := "c2be2961bd13cd60e766ca0ae39b87a2e2024ede212ec606af8d0a772bae4457", func := "loop.example/g01112/laws.FnShortestBreak", spec := "fnShortestBreak", inPlace := ["internal/abi.NoEscape"], unfollowed := true, recurses := true, apart := false }
def FnShortestBreakSaid : Prop := fnShortestBreakRow.holds Try.pinned (OpenSpec.ofChange fnShortestBreakSpec)

/-- ITS FALSE NEIGHBOUR: 'it returns false'. Refute it at one input. -/
def fnShortestBreakWrong : ChangeSpec := { name := "fnShortestBreak", fn := fun _ => fun
  | [d1, d2] => { results := [.lit (.bool false)], args := [d1, d2] }
  | _ => none }
def FnShortestBreakWrongFalsely : Prop := fnShortestBreakRow.holds Try.pinned (OpenSpec.ofChange fnShortestBreakWrong)

/-- 'laws.FnExactChangeRule': WHATEVER THE INPUT: true; the input reads as it did. -/
def fnExactChangeRuleSpec : ChangeSpec := { name := "fnExactChangeRule", fn := fun _ => fun
  | [d1, d2, d3, d4] => { results := [.lit (.bool true)], args := [d1, d2, d3, d4] }
  | _ => none }
def fnExactChangeRuleRow : OpenClaim := { program := "ytibdelappoefeaa", sum := "c2be2961bd13cd60e766ca0ae39b87a2e2024ede212ec606af8d0a772bae4457", func := "loop.example/g01112/laws.FnExactChangeRule", spec := "fnExactChangeRule", unfollowed := true, recurses := true, apart := false }
def FnExactChangeRuleSaid : Prop := fnExactChangeRuleRow.holds Try.pinned (OpenSpec.ofChange fnExactChangeRuleSpec)

/-- ITS FALSE NEIGHBOUR: 'it returns false'. Refute it at one input. -/
def fnExactChangeRuleWrong : ChangeSpec := { name := "fnExactChangeRule", fn := fun _ => fun
  | [d1, d2, d3, d4] => { results := [.lit (.bool false)], args := [d1, d2, d3, d4] }
  | _ => none }
def FnExactChangeRuleWrongFalsely : Prop := fnExactChangeRuleRow.holds Try.pinned (OpenSpec.ofChange fnExactChangeRuleWrong)

/-- 'laws.FnExactGuessesOf': WHATEVER THE INPUT: true; the input reads as it did. -/
def fnExactGuessesOfSpec : ChangeSpec := { name := "fnExactGuessesOf", fn := fun _ => fun
  | [d1, d2] => { results := [.lit (.bool true)], args := [d1, d2] }
  | _ => none }
def fnExactGuessesOfRow : OpenClaim := { program := "ytibdelappoefeaa", sum := "c2be2961bd13cd60e766ca0ae39b87a2e2024ede212ec606af8d0a772bae4457", func := "loop.example/g01112/laws.FnExactGuessesOf", spec := "fnExactGuessesOf", unfollowed := true, recurses := true, apart := false }
def FnExactGuessesOfSaid : Prop := fnExactGuessesOfRow.holds Try.pinned (OpenSpec.ofChange fnExactGuessesOfSpec)

/-- ITS FALSE NEIGHBOUR: 'it returns false'. Refute it at one input. -/
def fnExactGuessesOfWrong : ChangeSpec := { name := "fnExactGuessesOf", fn := fun _ => fun
  | [d1, d2] => { results := [.lit (.bool false)], args := [d1, d2] }
  | _ => none }
def FnExactGuessesOfWrongFalsely : Prop := fnExactGuessesOfRow.holds Try.pinned (OpenSpec.ofChange fnExactGuessesOfWrong)

/-- 'laws.FnExactBusTraffic': WHATEVER THE INPUT: true; the input reads as it did. -/
def fnExactBusTrafficSpec : ChangeSpec := { name := "fnExactBusTraffic", fn := fun _ => fun
  | [d1, d2, d3] => { results := [.lit (.bool true)], args := [d1, d2, d3] }
  | _ => none }
def fnExactBusTrafficRow : OpenClaim := { program := "ytibdelappoefeaa", sum := "c2be2961bd13cd60e766ca0ae39b87a2e2024ede212ec606af8d0a772bae4457", func := "loop.example/g01112/laws.FnExactBusTraffic", spec := "fnExactBusTraffic", unfollowed := true, recurses := true, apart := false }
def FnExactBusTrafficSaid : Prop := fnExactBusTrafficRow.holds Try.pinned (OpenSpec.ofChange fnExactBusTrafficSpec)

/-- ITS FALSE NEIGHBOUR: 'it returns false'. Refute it at one input. -/
def fnExactBusTrafficWrong : ChangeSpec := { name := "fnExactBusTraffic", fn := fun _ => fun
  | [d1, d2, d3] => { results := [.lit (.bool false)], args := [d1, d2, d3] }
  | _ => none }
def FnExactBusTrafficWrongFalsely : Prop := fnExactBusTrafficRow.holds Try.pinned (OpenSpec.ofChange fnExactBusTrafficWrong)

/-- 'laws.FnStrided': WHATEVER THE INPUT: true; the input reads as it did. -/
def fnStridedSpec : ChangeSpec := { name := "fnStrided", fn := fun _ => fun
  | [d1, d2] => { results := [.lit (.bool true)], args := [d1, d2] }
  | _ => none }
def fnStridedRow : OpenClaim := { program := "ytibdelappoefeaa", sum := "c2be2961bd13cd60e766ca0ae39b87a2e2024ede212ec606af8d0a772bae4457", func := "loop.example/g01112/laws.FnStrided", spec := "fnStrided", inPlace := ["slices.overlaps[int64]"], unfollowed := true, recurses := true, apart := false }
def FnStridedSaid : Prop := fnStridedRow.holds Try.pinned (OpenSpec.ofChange fnStridedSpec)

/-- ITS FALSE NEIGHBOUR: 'it returns false'. Refute it at one input. -/
def fnStridedWrong : ChangeSpec := { name := "fnStrided", fn := fun _ => fun
  | [d1, d2] => { results := [.lit (.bool false)], args := [d1, d2] }
  | _ => none }
def FnStridedWrongFalsely : Prop := fnStridedRow.holds Try.pinned (OpenSpec.ofChange fnStridedWrong)

/-- 'laws.FnDegrees': WHATEVER THE INPUT: true; the input reads as it did. -/
def fnDegreesSpec : ChangeSpec := { name := "fnDegrees", fn := fun _ => fun
  | [d1, d2] => { results := [.lit (.bool true)], args := [d1, d2] }
  | _ => none }
def fnDegreesRow : OpenClaim := { program := "ytibdelappoefeaa", sum := "c2be2961bd13cd60e766ca0ae39b87a2e2024ede212ec606af8d0a772bae4457", func := "loop.example/g01112/laws.FnDegrees", spec := "fnDegrees", inPlace := ["slices.overlaps[int64]"], unfollowed := true, recurses := true, apart := false }
def FnDegreesSaid : Prop := fnDegreesRow.holds Try.pinned (OpenSpec.ofChange fnDegreesSpec)

/-- ITS FALSE NEIGHBOUR: 'it returns false'. Refute it at one input. -/
def fnDegreesWrong : ChangeSpec := { name := "fnDegrees", fn := fun _ => fun
  | [d1, d2] => { results := [.lit (.bool false)], args := [d1, d2] }
  | _ => none }
def FnDegreesWrongFalsely : Prop := fnDegreesRow.holds Try.pinned (OpenSpec.ofChange fnDegreesWrong)

/-- 'laws.FnExactRunSystem': WHATEVER THE INPUT: true; the input reads as it did. -/
def fnExactRunSystemSpec : ChangeSpec := { name := "fnExactRunSystem", fn := fun _ => fun
  | [d1, d2, d3] => { results := [.lit (.bool true)], args := [d1, d2, d3] }
  | _ => none }
def fnExactRunSystemRow : OpenClaim := { program := "ytibdelappoefeaa", sum := "c2be2961bd13cd60e766ca0ae39b87a2e2024ede212ec606af8d0a772bae4457", func := "loop.example/g01112/laws.FnExactRunSystem", spec := "fnExactRunSystem", unfollowed := true, recurses := true, apart := false }
def FnExactRunSystemSaid : Prop := fnExactRunSystemRow.holds Try.pinned (OpenSpec.ofChange fnExactRunSystemSpec)

/-- ITS FALSE NEIGHBOUR: 'it returns false'. Refute it at one input. -/
def fnExactRunSystemWrong : ChangeSpec := { name := "fnExactRunSystem", fn := fun _ => fun
  | [d1, d2, d3] => { results := [.lit (.bool false)], args := [d1, d2, d3] }
  | _ => none }
def FnExactRunSystemWrongFalsely : Prop := fnExactRunSystemRow.holds Try.pinned (OpenSpec.ofChange fnExactRunSystemWrong)

/-- 'laws.FnDemand': WHATEVER THE INPUT: true; the input reads as it did. -/
def fnDemandSpec : ChangeSpec := { name := "fnDemand", fn := fun _ => fun
  | [d1, d2] => { results := [.lit (.bool true)], args := [d1, d2] }
  | _ => none }
def fnDemandRow : OpenClaim := { program := "ytibdelappoefeaa", sum := "c2be2961bd13cd60e766ca0ae39b87a2e2024ede212ec606af8d0a772bae4457", func := "loop.example/g01112/laws.FnDemand", spec := "fnDemand", unfollowed := true, recurses := true, apart := false }
def FnDemandSaid : Prop := fnDemandRow.holds Try.pinned (OpenSpec.ofChange fnDemandSpec)

/-- ITS FALSE NEIGHBOUR: 'it returns false'. Refute it at one input. -/
def fnDemandWrong : ChangeSpec := { name := "fnDemand", fn := fun _ => fun
  | [d1, d2] => { results := [.lit (.bool false)], args := [d1, d2] }
  | _ => none }
def FnDemandWrongFalsely : Prop := fnDemandRow.holds Try.pinned (OpenSpec.ofChange fnDemandWrong)

/-- 'laws.FnGuessed': WHATEVER THE INPUT: true; the input reads as it did. -/
def fnGuessedSpec : ChangeSpec := { name := "fnGuessed", fn := fun _ => fun
  | [d1, d2] => { results := [.lit (.bool true)], args := [d1, d2] }
  | _ => none }
def fnGuessedRow : OpenClaim := { program := "ytibdelappoefeaa", sum := "c2be2961bd13cd60e766ca0ae39b87a2e2024ede212ec606af8d0a772bae4457", func := "loop.example/g01112/laws.FnGuessed", spec := "fnGuessed", unfollowed := true, recurses := true, apart := false }
def FnGuessedSaid : Prop := fnGuessedRow.holds Try.pinned (OpenSpec.ofChange fnGuessedSpec)

/-- ITS FALSE NEIGHBOUR: 'it returns false'. Refute it at one input. -/
def fnGuessedWrong : ChangeSpec := { name := "fnGuessed", fn := fun _ => fun
  | [d1, d2] => { results := [.lit (.bool false)], args := [d1, d2] }
  | _ => none }
def FnGuessedWrongFalsely : Prop := fnGuessedRow.holds Try.pinned (OpenSpec.ofChange fnGuessedWrong)

/-- 'laws.FnExactPairsOf': WHATEVER THE INPUT: true; the input reads as it did. -/
def fnExactPairsOfSpec : ChangeSpec := { name := "fnExactPairsOf", fn := fun _ => fun
  | [d1, d2] => { results := [.lit (.bool true)], args := [d1, d2] }
  | _ => none }
def fnExactPairsOfRow : OpenClaim := { program := "ytibdelappoefeaa", sum := "c2be2961bd13cd60e766ca0ae39b87a2e2024ede212ec606af8d0a772bae4457", func := "loop.example/g01112/laws.FnExactPairsOf", spec := "fnExactPairsOf", unfollowed := true, recurses := true, apart := false }
def FnExactPairsOfSaid : Prop := fnExactPairsOfRow.holds Try.pinned (OpenSpec.ofChange fnExactPairsOfSpec)

/-- ITS FALSE NEIGHBOUR: 'it returns false'. Refute it at one input. -/
def fnExactPairsOfWrong : ChangeSpec := { name := "fnExactPairsOf", fn := fun _ => fun
  | [d1, d2] => { results := [.lit (.bool false)], args := [d1, d2] }
  | _ => none }
def FnExactPairsOfWrongFalsely : Prop := fnExactPairsOfRow.holds Try.pinned (OpenSpec.ofChange fnExactPairsOfWrong)

/-- 'laws.FnExactBestDegree': WHATEVER THE INPUT: true; the input reads as it did. -/
def fnExactBestDegreeSpec : ChangeSpec := { name := "fnExactBestDegree", fn := fun _ => fun
  | [d1, d2] => { results := [.lit (.bool true)], args := [d1, d2] }
  | _ => none }
def fnExactBestDegreeRow : OpenClaim := { program := "ytibdelappoefeaa", sum := "c2be2961bd13cd60e766ca0ae39b87a2e2024ede212ec606af8d0a772bae4457", func := "loop.example/g01112/laws.FnExactBestDegree", spec := "fnExactBestDegree", inPlace := ["slices.overlaps[int64]"], unfollowed := true, recurses := true, apart := false }
def FnExactBestDegreeSaid : Prop := fnExactBestDegreeRow.holds Try.pinned (OpenSpec.ofChange fnExactBestDegreeSpec)

/-- ITS FALSE NEIGHBOUR: 'it returns false'. Refute it at one input. -/
def fnExactBestDegreeWrong : ChangeSpec := { name := "fnExactBestDegree", fn := fun _ => fun
  | [d1, d2] => { results := [.lit (.bool false)], args := [d1, d2] }
  | _ => none }
def FnExactBestDegreeWrongFalsely : Prop := fnExactBestDegreeRow.holds Try.pinned (OpenSpec.ofChange fnExactBestDegreeWrong)

/- THE SECOND FORM. 'bulk': how many values and letters a reading holds, each counted each time it is reached (what is shared counts as often as it is met; a slice's spare places count too). A statement '..UptoSaid' is the law's where the arguments, and the package variables that the reading takes, are together of bulk at most 1048576: NARROWER than '..Said'. Prove '..Said' where nothing that the law and all that it calls make is longer than what came in: it says more and counts as full. Else prove '..UptoSaid'. A law counts once. -/
mutual
def uptoBulk {H : Type} : DataW H → Nat
  | .lit (.string bytes) => bytes.length + 1
  | .lit _ => 1
  | .nil => 1
  | .ptr d => uptoBulk d + 1
  | .slice elems spare => uptoBulkAll elems + uptoBulkAll spare + 1
  | .agg parts => uptoBulkAll parts + 1
  | .iface _ d => uptoBulk d + 1
  | .map entries => uptoBulkEntries entries + 1
  | .held _ => 1
def uptoBulkAll {H : Type} : List (DataW H) → Nat
  | [] => 0
  | d :: r => uptoBulk d + uptoBulkAll r
def uptoBulkEntries {H : Type} : List (Lit × DataW H) → Nat
  | [] => 0
  | x :: r => uptoBulkEntry x + uptoBulkEntries r
def uptoBulkEntry {H : Type} : Lit × DataW H → Nat
  | (.string bytes, d) => bytes.length + uptoBulk d + 1
  | (_, d) => uptoBulk d + 1
 end
def uptoSmall : (H : Type) → List (DataW H) → Bool := fun _ ds => decide (uptoBulkAll ds ≤ 1048576)
def OpenSpec.upto (s : _root_.Go.ChangeSpec) : _root_.Go.OpenSpec := { _root_.Go.OpenSpec.ofChange s with cond := some uptoSmall }

/-- 'laws.FnShortestBreak', WHERE WHAT IT READS IS OF BULK AT MOST 1048576: true; the input reads as it did. -/
def fnShortestBreakUptoRow : OpenClaim := { program := "ytibdelappoefeaa", sum := "c2be2961bd13cd60e766ca0ae39b87a2e2024ede212ec606af8d0a772bae4457", func := "loop.example/g01112/laws.FnShortestBreak", spec := "fnShortestBreak", inPlace := ["internal/abi.NoEscape"], unfollowed := true, recurses := true, apart := false, narrowed := true }
def FnShortestBreakUptoSaid : Prop := fnShortestBreakUptoRow.holds Try.pinned (OpenSpec.upto fnShortestBreakSpec)

/-- 'laws.FnExactChangeRule', WHERE WHAT IT READS IS OF BULK AT MOST 1048576: true; the input reads as it did. -/
def fnExactChangeRuleUptoRow : OpenClaim := { program := "ytibdelappoefeaa", sum := "c2be2961bd13cd60e766ca0ae39b87a2e2024ede212ec606af8d0a772bae4457", func := "loop.example/g01112/laws.FnExactChangeRule", spec := "fnExactChangeRule", unfollowed := true, recurses := true, apart := false, narrowed := true }
def FnExactChangeRuleUptoSaid : Prop := fnExactChangeRuleUptoRow.holds Try.pinned (OpenSpec.upto fnExactChangeRuleSpec)

/-- 'laws.FnExactGuessesOf', WHERE WHAT IT READS IS OF BULK AT MOST 1048576: true; the input reads as it did. -/
def fnExactGuessesOfUptoRow : OpenClaim := { program := "ytibdelappoefeaa", sum := "c2be2961bd13cd60e766ca0ae39b87a2e2024ede212ec606af8d0a772bae4457", func := "loop.example/g01112/laws.FnExactGuessesOf", spec := "fnExactGuessesOf", unfollowed := true, recurses := true, apart := false, narrowed := true }
def FnExactGuessesOfUptoSaid : Prop := fnExactGuessesOfUptoRow.holds Try.pinned (OpenSpec.upto fnExactGuessesOfSpec)

/-- 'laws.FnExactBusTraffic', WHERE WHAT IT READS IS OF BULK AT MOST 1048576: true; the input reads as it did. -/
def fnExactBusTrafficUptoRow : OpenClaim := { program := "ytibdelappoefeaa", sum := "c2be2961bd13cd60e766ca0ae39b87a2e2024ede212ec606af8d0a772bae4457", func := "loop.example/g01112/laws.FnExactBusTraffic", spec := "fnExactBusTraffic", unfollowed := true, recurses := true, apart := false, narrowed := true }
def FnExactBusTrafficUptoSaid : Prop := fnExactBusTrafficUptoRow.holds Try.pinned (OpenSpec.upto fnExactBusTrafficSpec)

/-- 'laws.FnStrided', WHERE WHAT IT READS IS OF BULK AT MOST 1048576: true; the input reads as it did. -/
def fnStridedUptoRow : OpenClaim := { program := "ytibdelappoefeaa", sum := "c2be2961bd13cd60e766ca0ae39b87a2e2024ede212ec606af8d0a772bae4457", func := "loop.example/g01112/laws.FnStrided", spec := "fnStrided", inPlace := ["slices.overlaps[int64]"], unfollowed := true, recurses := true, apart := false, narrowed := true }
def FnStridedUptoSaid : Prop := fnStridedUptoRow.holds Try.pinned (OpenSpec.upto fnStridedSpec)

/-- 'laws.FnDegrees', WHERE WHAT IT READS IS OF BULK AT MOST 1048576: true; the input reads as it did. -/
def fnDegreesUptoRow : OpenClaim := { program := "ytibdelappoefeaa", sum := "c2be2961bd13cd60e766ca0ae39b87a2e2024ede212ec606af8d0a772bae4457", func := "loop.example/g01112/laws.FnDegrees", spec := "fnDegrees", inPlace := ["slices.overlaps[int64]"], unfollowed := true, recurses := true, apart := false, narrowed := true }
def FnDegreesUptoSaid : Prop := fnDegreesUptoRow.holds Try.pinned (OpenSpec.upto fnDegreesSpec)

/-- 'laws.FnExactRunSystem', WHERE WHAT IT READS IS OF BULK AT MOST 1048576: true; the input reads as it did. -/
def fnExactRunSystemUptoRow : OpenClaim := { program := "ytibdelappoefeaa", sum := "c2be2961bd13cd60e766ca0ae39b87a2e2024ede212ec606af8d0a772bae4457", func := "loop.example/g01112/laws.FnExactRunSystem", spec := "fnExactRunSystem", unfollowed := true, recurses := true, apart := false, narrowed := true }
def FnExactRunSystemUptoSaid : Prop := fnExactRunSystemUptoRow.holds Try.pinned (OpenSpec.upto fnExactRunSystemSpec)

/-- 'laws.FnDemand', WHERE WHAT IT READS IS OF BULK AT MOST 1048576: true; the input reads as it did. -/
def fnDemandUptoRow : OpenClaim := { program := "ytibdelappoefeaa", sum := "c2be2961bd13cd60e766ca0ae39b87a2e2024ede212ec606af8d0a772bae4457", func := "loop.example/g01112/laws.FnDemand", spec := "fnDemand", unfollowed := true, recurses := true, apart := false, narrowed := true }
def FnDemandUptoSaid : Prop := fnDemandUptoRow.holds Try.pinned (OpenSpec.upto fnDemandSpec)

/-- 'laws.FnGuessed', WHERE WHAT IT READS IS OF BULK AT MOST 1048576: true; the input reads as it did. -/
def fnGuessedUptoRow : OpenClaim := { program := "ytibdelappoefeaa", sum := "c2be2961bd13cd60e766ca0ae39b87a2e2024ede212ec606af8d0a772bae4457", func := "loop.example/g01112/laws.FnGuessed", spec := "fnGuessed", unfollowed := true, recurses := true, apart := false, narrowed := true }
def FnGuessedUptoSaid : Prop := fnGuessedUptoRow.holds Try.pinned (OpenSpec.upto fnGuessedSpec)

/-- 'laws.FnExactPairsOf', WHERE WHAT IT READS IS OF BULK AT MOST 1048576: true; the input reads as it did. -/
def fnExactPairsOfUptoRow : OpenClaim := { program := "ytibdelappoefeaa", sum := "c2be2961bd13cd60e766ca0ae39b87a2e2024ede212ec606af8d0a772bae4457", func := "loop.example/g01112/laws.FnExactPairsOf", spec := "fnExactPairsOf", unfollowed := true, recurses := true, apart := false, narrowed := true }
def FnExactPairsOfUptoSaid : Prop := fnExactPairsOfUptoRow.holds Try.pinned (OpenSpec.upto fnExactPairsOfSpec)

/-- 'laws.FnExactBestDegree', WHERE WHAT IT READS IS OF BULK AT MOST 1048576: true; the input reads as it did. -/
def fnExactBestDegreeUptoRow : OpenClaim := { program := "ytibdelappoefeaa", sum := "c2be2961bd13cd60e766ca0ae39b87a2e2024ede212ec606af8d0a772bae4457", func := "loop.example/g01112/laws.FnExactBestDegree", spec := "fnExactBestDegree", inPlace := ["slices.overlaps[int64]"], unfollowed := true, recurses := true, apart := false, narrowed := true }
def FnExactBestDegreeUptoSaid : Prop := fnExactBestDegreeUptoRow.holds Try.pinned (OpenSpec.upto fnExactBestDegreeSpec)

end Rows
end Go.Proofs.Ytibdelappoefeaa
