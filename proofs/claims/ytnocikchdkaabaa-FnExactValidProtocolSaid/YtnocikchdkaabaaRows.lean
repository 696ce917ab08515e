/-
  No cell of these rows narrows 'for every input' (looked for: loops, veiled, ifaces, maps, wideKeys, modest, calm, conditions, laid).
  DERIVED. THE GIVEN ROWS OF THIS SEAT. 12 by the template 'for every input the law returns true; each argument reads behind the call as it read before'; 0 by the template 'total and deterministic' (their statements: YtnocikchdkaabaaTotals.lean).
  GIVEN WITH THE SEED: the statements are not yours to turn. If you find one false, say at which input.
  Laid BY PROGRAM, IN A SANDBOX (cutbox-rows.mjs): the forced cells as the released guide's own fill.sh prints them over the translation 8e721efae954ef6f… (all of the seat's roots in one cut). By AI agents, Wed Nov 11 2026. No macro, syntax, notation, axiom, sorry.
-/
import Derived.Test.YtnocikchdkaabaaChecked
import GoSem.Claim
import GoSem.ClaimJoined
import GoSem.ClaimMapViews
import Derived.JoinedTies
import Derived.KernelRfl
namespace Go.Proofs.Ytnocikchdkaabaa
/- THE CELL 'sum', in the pinned program and in every row, IS THE sha256 OF THE DUMP (.gsa) THAT YtnocikchdkaabaaProg.lean LOADS. Nothing in Lean hashes anything: it is a label: what it is worth is what the hold of that sum in a sandbox is worth. -/
noncomputable def Try.pinned : Pinned := { name := "ytnocikchdkaabaa", sum := "8e721efae954ef6f7b39abe4f971f0b45bc729ae80e8f13ede2e79bb5edbf1ff", checked := Try.checked }
namespace Rows
def none {H : Type} : Left H := { results := [], args := [] }

/-- 'laws.FnExactValidPrefetcher': WHATEVER THE INPUT: true; the input reads as it did. -/
def fnExactValidPrefetcherSpec : ChangeSpec := { name := "fnExactValidPrefetcher", fn := fun _ => fun
  | [d] => { results := [.lit (.bool true)], args := [d] }
  | _ => none }
def fnExactValidPrefetcherRow : OpenClaim := { program := "ytnocikchdkaabaa", sum := "8e721efae954ef6f7b39abe4f971f0b45bc729ae80e8f13ede2e79bb5edbf1ff", func := "loop.example/g01112/laws.FnExactValidPrefetcher", spec := "fnExactValidPrefetcher", apart := false }
def FnExactValidPrefetcherSaid : Prop := fnExactValidPrefetcherRow.holds Try.pinned (OpenSpec.ofChange fnExactValidPrefetcherSpec)

/-- ITS FALSE NEIGHBOUR: 'it returns false'. Refute it at one input. -/
def fnExactValidPrefetcherWrong : ChangeSpec := { name := "fnExactValidPrefetcher", fn := fun _ => fun
  | [d] => { results := [.lit (.bool false)], args := [d] }
  | _ => none }
def FnExactValidPrefetcherWrongFalsely : Prop := fnExactValidPrefetcherRow.holds Try.pinned (OpenSpec.ofChange fnExactValidPrefetcherWrong)

/-- 'laws.FnExactValidLoads': WHATEVER THE INPUT: true; the input reads as it did. -/
def fnExactValidLoadsSpec : ChangeSpec := { name := "fnExactValidLoads", fn := fun _ => fun
  | [d] => { results := [.lit (.bool true)], args := [d] }
  | _ => none }
def fnExactValidLoadsRow : OpenClaim := { program := "ytnocikchdkaabaa", sum := "8e721efae954ef6f7b39abe4f971f0b45bc729ae80e8f13ede2e79bb5edbf1ff", func := "loop.example/g01112/laws.FnExactValidLoads", spec := "fnExactValidLoads", unfollowed := true, recurses := true, apart := false }
def FnExactValidLoadsSaid : Prop := fnExactValidLoadsRow.holds Try.pinned (OpenSpec.ofChange fnExactValidLoadsSpec)

/-- ITS FALSE NEIGHBOUR: 'it returns false'. Refute it at one input. -/
def fnExactValidLoadsWrong : ChangeSpec := { name := "fnExactValidLoads", fn := fun _ => fun
  | [d] => { results := [.lit (.bool false)], args := [d] }
  | _ => none }
def FnExactValidLoadsWrongFalsely : Prop := fnExactValidLoadsRow.holds Try.pinned (OpenSpec.ofChange fnExactValidLoadsWrong)

/-- 'laws.FnExactValidSystem': WHATEVER THE INPUT: true; the input reads as it did. -/
def fnExactValidSystemSpec : ChangeSpec := { name := "fnExactValidSystem", fn := fun _ => fun
  | [d] => { results := [.lit (.bool true)], args := [d] }
  | _ => none }
def fnExactValidSystemRow : OpenClaim := { program := "ytnocikchdkaabaa", sum := "8e721efae954ef6f7b39abe4f971f0b45bc729ae80e8f13ede2e79bb5edbf1ff", func := "loop.example/g01112/laws.FnExactValidSystem", spec := "fnExactValidSystem", apart := false }
def FnExactValidSystemSaid : Prop := fnExactValidSystemRow.holds Try.pinned (OpenSpec.ofChange fnExactValidSystemSpec)

/-- ITS FALSE NEIGHBOUR: 'it returns false'. Refute it at one input. -/
def fnExactValidSystemWrong : ChangeSpec := { name := "fnExactValidSystem", fn := fun _ => fun
  | [d] => { results := [.lit (.bool false)], args := [d] }
  | _ => none }
def FnExactValidSystemWrongFalsely : Prop := fnExactValidSystemRow.holds Try.pinned (OpenSpec.ofChange fnExactValidSystemWrong)

/-- 'laws.FnExactValidLitmus': WHATEVER THE INPUT: true; the input reads as it did. -/
def fnExactValidLitmusSpec : ChangeSpec := { name := "fnExactValidLitmus", fn := fun _ => fun
  | [d] => { results := [.lit (.bool true)], args := [d] }
  | _ => none }
def fnExactValidLitmusRow : OpenClaim := { program := "ytnocikchdkaabaa", sum := "8e721efae954ef6f7b39abe4f971f0b45bc729ae80e8f13ede2e79bb5edbf1ff", func := "loop.example/g01112/laws.FnExactValidLitmus", spec := "fnExactValidLitmus", unfollowed := true, recurses := true, apart := false }
def FnExactValidLitmusSaid : Prop := fnExactValidLitmusRow.holds Try.pinned (OpenSpec.ofChange fnExactValidLitmusSpec)

/-- ITS FALSE NEIGHBOUR: 'it returns false'. Refute it at one input. -/
def fnExactValidLitmusWrong : ChangeSpec := { name := "fnExactValidLitmus", fn := fun _ => fun
  | [d] => { results := [.lit (.bool false)], args := [d] }
  | _ => none }
def FnExactValidLitmusWrongFalsely : Prop := fnExactValidLitmusRow.holds Try.pinned (OpenSpec.ofChange fnExactValidLitmusWrong)

/-- 'laws.FnExactValidProtocol': WHATEVER THE INPUT: true; the input reads as it did. -/
def fnExactValidProtocolSpec : ChangeSpec := { name := "fnExactValidProtocol", fn := fun _ => fun
  | [d] => { results := [.lit (.bool true)], args := [d] }
  | _ => none }
def fnExactValidProtocolRow : OpenClaim := { program := "ytnocikchdkaabaa", sum := "8e721efae954ef6f7b39abe4f971f0b45bc729ae80e8f13ede2e79bb5edbf1ff", func := "loop.example/g01112/laws.FnExactValidProtocol", spec := "fnExactValidProtocol", unfollowed := true, recurses := true, apart := false }
def FnExactValidProtocolSaid : Prop := fnExactValidProtocolRow.holds Try.pinned (OpenSpec.ofChange fnExactValidProtocolSpec)

/-- ITS FALSE NEIGHBOUR: 'it returns false'. Refute it at one input. -/
def fnExactValidProtocolWrong : ChangeSpec := { name := "fnExactValidProtocol", fn := fun _ => fun
  | [d] => { results := [.lit (.bool false)], args := [d] }
  | _ => none }
def FnExactValidProtocolWrongFalsely : Prop := fnExactValidProtocolRow.holds Try.pinned (OpenSpec.ofChange fnExactValidProtocolWrong)

/-- 'laws.FnExactStridesOf': WHATEVER THE INPUT: true; the input reads as it did. -/
def fnExactStridesOfSpec : ChangeSpec := { name := "fnExactStridesOf", fn := fun _ => fun
  | [d] => { results := [.lit (.bool true)], args := [d] }
  | _ => none }
def fnExactStridesOfRow : OpenClaim := { program := "ytnocikchdkaabaa", sum := "8e721efae954ef6f7b39abe4f971f0b45bc729ae80e8f13ede2e79bb5edbf1ff", func := "loop.example/g01112/laws.FnExactStridesOf", spec := "fnExactStridesOf", unfollowed := true, recurses := true, apart := false }
def FnExactStridesOfSaid : Prop := fnExactStridesOfRow.holds Try.pinned (OpenSpec.ofChange fnExactStridesOfSpec)

/-- ITS FALSE NEIGHBOUR: 'it returns false'. Refute it at one input. -/
def fnExactStridesOfWrong : ChangeSpec := { name := "fnExactStridesOf", fn := fun _ => fun
  | [d] => { results := [.lit (.bool false)], args := [d] }
  | _ => none }
def FnExactStridesOfWrongFalsely : Prop := fnExactStridesOfRow.holds Try.pinned (OpenSpec.ofChange fnExactStridesOfWrong)

/-- 'laws.FnForgotten': WHATEVER THE INPUT: true; the input reads as it did. -/
def fnForgottenSpec : ChangeSpec := { name := "fnForgotten", fn := fun _ => fun
  | [d1, d2] => { results := [.lit (.bool true)], args := [d1, d2] }
  | _ => none }
def fnForgottenRow : OpenClaim := { program := "ytnocikchdkaabaa", sum := "8e721efae954ef6f7b39abe4f971f0b45bc729ae80e8f13ede2e79bb5edbf1ff", func := "loop.example/g01112/laws.FnForgotten", spec := "fnForgotten", unfollowed := true, recurses := true, apart := false }
def FnForgottenSaid : Prop := fnForgottenRow.holds Try.pinned (OpenSpec.ofChange fnForgottenSpec)

/-- ITS FALSE NEIGHBOUR: 'it returns false'. Refute it at one input. -/
def fnForgottenWrong : ChangeSpec := { name := "fnForgotten", fn := fun _ => fun
  | [d1, d2] => { results := [.lit (.bool false)], args := [d1, d2] }
  | _ => none }
def FnForgottenWrongFalsely : Prop := fnForgottenRow.holds Try.pinned (OpenSpec.ofChange fnForgottenWrong)

/-- 'laws.FnExactMsiProtocol': WHATEVER THE INPUT: true; the input reads as it did. -/
def fnExactMsiProtocolSpec : ChangeSpec := { name := "fnExactMsiProtocol", fn := fun _ => fun
  | [d] => { results := [.lit (.bool true)], args := [d] }
  | _ => none }
def fnExactMsiProtocolRow : OpenClaim := { program := "ytnocikchdkaabaa", sum := "8e721efae954ef6f7b39abe4f971f0b45bc729ae80e8f13ede2e79bb5edbf1ff", func := "loop.example/g01112/laws.FnExactMsiProtocol", spec := "fnExactMsiProtocol", apart := false }
def FnExactMsiProtocolSaid : Prop := fnExactMsiProtocolRow.holds Try.pinned (OpenSpec.ofChange fnExactMsiProtocolSpec)

/-- ITS FALSE NEIGHBOUR: 'it returns false'. Refute it at one input. -/
def fnExactMsiProtocolWrong : ChangeSpec := { name := "fnExactMsiProtocol", fn := fun _ => fun
  | [d] => { results := [.lit (.bool false)], args := [d] }
  | _ => none }
def FnExactMsiProtocolWrongFalsely : Prop := fnExactMsiProtocolRow.holds Try.pinned (OpenSpec.ofChange fnExactMsiProtocolWrong)

/-- 'laws.FnExactThroughProtocol': WHATEVER THE INPUT: true; the input reads as it did. -/
def fnExactThroughProtocolSpec : ChangeSpec := { name := "fnExactThroughProtocol", fn := fun _ => fun
  | [d] => { results := [.lit (.bool true)], args := [d] }
  | _ => none }
def fnExactThroughProtocolRow : OpenClaim := { program := "ytnocikchdkaabaa", sum := "8e721efae954ef6f7b39abe4f971f0b45bc729ae80e8f13ede2e79bb5edbf1ff", func := "loop.example/g01112/laws.FnExactThroughProtocol", spec := "fnExactThroughProtocol", apart := false }
def FnExactThroughProtocolSaid : Prop := fnExactThroughProtocolRow.holds Try.pinned (OpenSpec.ofChange fnExactThroughProtocolSpec)

/-- ITS FALSE NEIGHBOUR: 'it returns false'. Refute it at one input. -/
def fnExactThroughProtocolWrong : ChangeSpec := { name := "fnExactThroughProtocol", fn := fun _ => fun
  | [d] => { results := [.lit (.bool false)], args := [d] }
  | _ => none }
def FnExactThroughProtocolWrongFalsely : Prop := fnExactThroughProtocolRow.holds Try.pinned (OpenSpec.ofChange fnExactThroughProtocolWrong)

/-- 'laws.FnDrained': WHATEVER THE INPUT: true; the input reads as it did. -/
def fnDrainedSpec : ChangeSpec := { name := "fnDrained", fn := fun _ => fun
  | [d1, d2] => { results := [.lit (.bool true)], args := [d1, d2] }
  | _ => none }
def fnDrainedRow : OpenClaim := { program := "ytnocikchdkaabaa", sum := "8e721efae954ef6f7b39abe4f971f0b45bc729ae80e8f13ede2e79bb5edbf1ff", func := "loop.example/g01112/laws.FnDrained", spec := "fnDrained", unfollowed := true, recurses := true, apart := false }
def FnDrainedSaid : Prop := fnDrainedRow.holds Try.pinned (OpenSpec.ofChange fnDrainedSpec)

/-- ITS FALSE NEIGHBOUR: 'it returns false'. Refute it at one input. -/
def fnDrainedWrong : ChangeSpec := { name := "fnDrained", fn := fun _ => fun
  | [d1, d2] => { results := [.lit (.bool false)], args := [d1, d2] }
  | _ => none }
def FnDrainedWrongFalsely : Prop := fnDrainedRow.holds Try.pinned (OpenSpec.ofChange fnDrainedWrong)

/-- 'laws.FnExactBufferMemory': WHATEVER THE INPUT: true; the input reads as it did. -/
def fnExactBufferMemorySpec : ChangeSpec := { name := "fnExactBufferMemory", fn := fun _ => fun
  | [d1, d2] => { results := [.lit (.bool true)], args := [d1, d2] }
  | _ => none }
def fnExactBufferMemoryRow : OpenClaim := { program := "ytnocikchdkaabaa", sum := "8e721efae954ef6f7b39abe4f971f0b45bc729ae80e8f13ede2e79bb5edbf1ff", func := "loop.example/g01112/laws.FnExactBufferMemory", spec := "fnExactBufferMemory", unfollowed := true, recurses := true, apart := false }
def FnExactBufferMemorySaid : Prop := fnExactBufferMemoryRow.holds Try.pinned (OpenSpec.ofChange fnExactBufferMemorySpec)

/-- ITS FALSE NEIGHBOUR: 'it returns false'. Refute it at one input. -/
def fnExactBufferMemoryWrong : ChangeSpec := { name := "fnExactBufferMemory", fn := fun _ => fun
  | [d1, d2] => { results := [.lit (.bool false)], args := [d1, d2] }
  | _ => none }
def FnExactBufferMemoryWrongFalsely : Prop := fnExactBufferMemoryRow.holds Try.pinned (OpenSpec.ofChange fnExactBufferMemoryWrong)

/-- 'laws.FnExactBufferOrder': WHATEVER THE INPUT: true; the input reads as it did. -/
def fnExactBufferOrderSpec : ChangeSpec := { name := "fnExactBufferOrder", fn := fun _ => fun
  | [d1, d2] => { results := [.lit (.bool true)], args := [d1, d2] }
  | _ => none }
def fnExactBufferOrderRow : OpenClaim := { program := "ytnocikchdkaabaa", sum := "8e721efae954ef6f7b39abe4f971f0b45bc729ae80e8f13ede2e79bb5edbf1ff", func := "loop.example/g01112/laws.FnExactBufferOrder", spec := "fnExactBufferOrder", unfollowed := true, recurses := true, apart := false }
def FnExactBufferOrderSaid : Prop := fnExactBufferOrderRow.holds Try.pinned (OpenSpec.ofChange fnExactBufferOrderSpec)

/-- ITS FALSE NEIGHBOUR: 'it returns false'. Refute it at one input. -/
def fnExactBufferOrderWrong : ChangeSpec := { name := "fnExactBufferOrder", fn := fun _ => fun
  | [d1, d2] => { results := [.lit (.bool false)], args := [d1, d2] }
  | _ => none }
def FnExactBufferOrderWrongFalsely : Prop := fnExactBufferOrderRow.holds Try.pinned (OpenSpec.ofChange fnExactBufferOrderWrong)

/- THE SECOND FORM. 'bulk': how many values and letters a reading holds, each counted each time it is reached (what is shared counts as often as it is met; a slice's spare places count too). A statement '..UptoSaid' is the law's where the arguments, and the package variables that the reading takes, are together of bulk at most 1048576: NARROWER than '..Said'. Prove '..Said' where nothing that the law and all that it calls make is longer than what came in: it says more and counts as full. Else prove '..UptoSaid'. A law counts once. -/
mutual
def uptoBulk {H : Type} : DataW H → Nat
  | .lit (.string bytes) => bytes.length + 1
  | .lit _ => 1
  | .nil => 1
  | .ptr d => uptoBulk d + 1
  | .slice elems spare => uptoBulkAll elems + uptoBulkAll spare + 1
  | .agg parts => uptoBulkAll parts + 1
  | .iface _ d => uptoBulk d + 1
  | .map entries => uptoBulkEntries entries + 1
  | .held _ => 1
def uptoBulkAll {H : Type} : List (DataW H) → Nat
  | [] => 0
  | d :: r => uptoBulk d + uptoBulkAll r
def uptoBulkEntries {H : Type} : List (Lit × DataW H) → Nat
  | [] => 0
  | x :: r => uptoBulkEntry x + uptoBulkEntries r
def uptoBulkEntry {H : Type} : Lit × DataW H → Nat
  | (.string bytes, d) => bytes.length + uptoBulk d + 1
  | (_, d) => uptoBulk d + 1
 end
def uptoSmall : (H : Type) → List (DataW H) → Bool := fun _ ds => decide (uptoBulkAll ds ≤ 1048576)
def OpenSpec.upto (s : _root_.Go.ChangeSpec) : _root_.Go.OpenSpec := { _root_.Go.OpenSpec.ofChange s with cond := some uptoSmall }

/-- 'laws.FnExactValidPrefetcher', WHERE WHAT IT READS IS OF BULK AT MOST 1048576: true; the input reads as it did. -/
def fnExactValidPrefetcherUptoRow : OpenClaim := { program := "ytnocikchdkaabaa", sum := "8e721efae954ef6f7b39abe4f971f0b45bc729ae80e8f13ede2e79bb5edbf1ff", func := "loop.example/g01112/laws.FnExactValidPrefetcher", spec := "fnExactValidPrefetcher", apart := false, narrowed := true }
def FnExactValidPrefetcherUptoSaid : Prop := fnExactValidPrefetcherUptoRow.holds Try.pinned (OpenSpec.upto fnExactValidPrefetcherSpec)

/-- 'laws.FnExactValidLoads', WHERE WHAT IT READS IS OF BULK AT MOST 1048576: true; the input reads as it did. -/
def fnExactValidLoadsUptoRow : OpenClaim := { program := "ytnocikchdkaabaa", sum := "8e721efae954ef6f7b39abe4f971f0b45bc729ae80e8f13ede2e79bb5edbf1ff", func := "loop.example/g01112/laws.FnExactValidLoads", spec := "fnExactValidLoads", unfollowed := true, recurses := true, apart := false, narrowed := true }
def FnExactValidLoadsUptoSaid : Prop := fnExactValidLoadsUptoRow.holds Try.pinned (OpenSpec.upto fnExactValidLoadsSpec)

/-- 'laws.FnExactValidSystem', WHERE WHAT IT READS IS OF BULK AT MOST 1048576: true; the input reads as it did. -/
def fnExactValidSystemUptoRow : OpenClaim := { program := "ytnocikchdkaabaa", sum := "8e721efae954ef6f7b39abe4f971f0b45bc729ae80e8f13ede2e79bb5edbf1ff", func := "loop.example/g01112/laws.FnExactValidSystem", spec := "fnExactValidSystem", apart := false, narrowed := true }
def FnExactValidSystemUptoSaid : Prop := fnExactValidSystemUptoRow.holds Try.pinned (OpenSpec.upto fnExactValidSystemSpec)

/-- 'laws.FnExactValidLitmus', WHERE WHAT IT READS IS OF BULK AT MOST 1048576: true; the input reads as it did. -/
def fnExactValidLitmusUptoRow : OpenClaim := { program := "ytnocikchdkaabaa", sum := "8e721efae954ef6f7b39abe4f971f0b45bc729ae80e8f13ede2e79bb5edbf1ff", func := "loop.example/g01112/laws.FnExactValidLitmus", spec := "fnExactValidLitmus", unfollowed := true, recurses := true, apart := false, narrowed := true }
def FnExactValidLitmusUptoSaid : Prop := fnExactValidLitmusUptoRow.holds Try.pinned (OpenSpec.upto fnExactValidLitmusSpec)

/-- 'laws.FnExactValidProtocol', WHERE WHAT IT READS IS OF BULK AT MOST 1048576: true; the input reads as it did. -/
def fnExactValidProtocolUptoRow : OpenClaim := { program := "ytnocikchdkaabaa", sum := "8e721efae954ef6f7b39abe4f971f0b45bc729ae80e8f13ede2e79bb5edbf1ff", func := "loop.example/g01112/laws.FnExactValidProtocol", spec := "fnExactValidProtocol", unfollowed := true, recurses := true, apart := false, narrowed := true }
def FnExactValidProtocolUptoSaid : Prop := fnExactValidProtocolUptoRow.holds Try.pinned (OpenSpec.upto fnExactValidProtocolSpec)

/-- 'laws.FnExactStridesOf', WHERE WHAT IT READS IS OF BULK AT MOST 1048576: true; the input reads as it did. -/
def fnExactStridesOfUptoRow : OpenClaim := { program := "ytnocikchdkaabaa", sum := "8e721efae954ef6f7b39abe4f971f0b45bc729ae80e8f13ede2e79bb5edbf1ff", func := "loop.example/g01112/laws.FnExactStridesOf", spec := "fnExactStridesOf", unfollowed := true, recurses := true, apart := false, narrowed := true }
def FnExactStridesOfUptoSaid : Prop := fnExactStridesOfUptoRow.holds Try.pinned (OpenSpec.upto fnExactStridesOfSpec)

/-- 'laws.FnForgotten', WHERE WHAT IT READS IS OF BULK AT MOST 1048576: true; the input reads as it did. -/
def fnForgottenUptoRow : OpenClaim := { program := "ytnocikchdkaabaa", sum := "8e721efae954ef6f7b39abe4f971f0b45bc729ae80e8f13ede2e79bb5edbf1ff", func := "loop.example/g01112/laws.FnForgotten", spec := "fnForgotten", unfollowed := true, recurses := true, apart := false, narrowed := true }
def FnForgottenUptoSaid : Prop := fnForgottenUptoRow.holds Try.pinned (OpenSpec.upto fnForgottenSpec)

/-- 'laws.FnExactMsiProtocol', WHERE WHAT IT READS IS OF BULK AT MOST 1048576: true; the input reads as it did. -/
def fnExactMsiProtocolUptoRow : OpenClaim := { program := "ytnocikchdkaabaa", sum := "8e721efae954ef6f7b39abe4f971f0b45bc729ae80e8f13ede2e79bb5edbf1ff", func := "loop.example/g01112/laws.FnExactMsiProtocol", spec := "fnExactMsiProtocol", apart := false, narrowed := true }
def FnExactMsiProtocolUptoSaid : Prop := fnExactMsiProtocolUptoRow.holds Try.pinned (OpenSpec.upto fnExactMsiProtocolSpec)

/-- 'laws.FnExactThroughProtocol', WHERE WHAT IT READS IS OF BULK AT MOST 1048576: true; the input reads as it did. -/
def fnExactThroughProtocolUptoRow : OpenClaim := { program := "ytnocikchdkaabaa", sum := "8e721efae954ef6f7b39abe4f971f0b45bc729ae80e8f13ede2e79bb5edbf1ff", func := "loop.example/g01112/laws.FnExactThroughProtocol", spec := "fnExactThroughProtocol", apart := false, narrowed := true }
def FnExactThroughProtocolUptoSaid : Prop := fnExactThroughProtocolUptoRow.holds Try.pinned (OpenSpec.upto fnExactThroughProtocolSpec)

/-- 'laws.FnDrained', WHERE WHAT IT READS IS OF BULK AT MOST 1048576: true; the input reads as it did. -/
def fnDrainedUptoRow : OpenClaim := { program := "ytnocikchdkaabaa", sum := "8e721efae954ef6f7b39abe4f971f0b45bc729ae80e8f13ede2e79bb5edbf1ff", func := "loop.example/g01112/laws.FnDrained", spec := "fnDrained", unfollowed := true, recurses := true, apart := false, narrowed := true }
def FnDrainedUptoSaid : Prop := fnDrainedUptoRow.holds Try.pinned (OpenSpec.upto fnDrainedSpec)

/-- 'laws.FnExactBufferMemory', WHERE WHAT IT READS IS OF BULK AT MOST 1048576: true; the input reads as it did. -/
def fnExactBufferMemoryUptoRow : OpenClaim := { program := "ytnocikchdkaabaa", sum := "8e721efae954ef6f7b39abe4f971f0b45bc729ae80e8f13ede2e79bb5edbf1ff", func := "loop.example/g01112/laws.FnExactBufferMemory", spec := "fnExactBufferMemory", unfollowed := true, recurses := true, apart := false, narrowed := true }
def FnExactBufferMemoryUptoSaid : Prop := fnExactBufferMemoryUptoRow.holds Try.pinned (OpenSpec.upto fnExactBufferMemorySpec)

/-- 'laws.FnExactBufferOrder', WHERE WHAT IT READS IS OF BULK AT MOST 1048576: true; the input reads as it did. -/
def fnExactBufferOrderUptoRow : OpenClaim := { program := "ytnocikchdkaabaa", sum := "8e721efae954ef6f7b39abe4f971f0b45bc729ae80e8f13ede2e79bb5edbf1ff", func := "loop.example/g01112/laws.FnExactBufferOrder", spec := "fnExactBufferOrder", unfollowed := true, recurses := true, apart := false, narrowed := true }
def FnExactBufferOrderUptoSaid : Prop := fnExactBufferOrderUptoRow.holds Try.pinned (OpenSpec.upto fnExactBufferOrderSpec)

end Rows
end Go.Proofs.Ytnocikchdkaabaa
