/-
  No cell of these rows narrows 'for every input' (looked for: loops, veiled, ifaces, maps, wideKeys, modest, calm, conditions, laid).
  DERIVED. THE GIVEN ROWS OF THIS SEAT. 6 by the template 'for every input the law returns true; each argument reads behind the call as it read before'; 0 by the template 'total and deterministic' (their statements: YtlaafbaheoeclaaTotals.lean).
  GIVEN WITH THE SEED: the statements are not yours to turn. If you find one false, say at which input.
  Laid BY PROGRAM, IN A SANDBOX (cutbox-rows.mjs): the forced cells as the released guide's own fill.sh prints them over the translation e50da9e36c80df05… (all of the seat's roots in one cut). By AI agents, Wed Nov 11 2026. No macro, syntax, notation, axiom, sorry.
-/
import Derived.Test.YtlaafbaheoeclaaChecked
import GoSem.Claim
import GoSem.ClaimJoined
import GoSem.ClaimMapViews
import Derived.JoinedTies
import Derived.KernelRfl
namespace Go.Proofs.Ytlaafbaheoeclaa
/- THE CELL 'sum', in the pinned program and in every row, IS THE sha256 OF THE DUMP (.gsa) THAT YtlaafbaheoeclaaProg.lean LOADS. Nothing in Lean hashes anything: it is a label: what it is worth is what the hold of that sum in a sandbox is worth. -/
noncomputable def Try.pinned : Pinned := { name := "ytlaafbaheoeclaa", sum := "e50da9e36c80df0555d522cb3d5027ad062e2f32939d4550b753cde46e029e64", checked := Try.checked }
namespace Rows
def none {H : Type} : Left H := { results := [], args := [] }

/-- 'laws.FnDrained': WHATEVER THE INPUT: true; the input reads as it did. -/
def fnDrainedSpec : ChangeSpec := { name := "fnDrained", fn := fun _ => fun
  | [d1, d2] => { results := [.lit (.bool true)], args := [d1, d2] }
  | _ => none }
def fnDrainedRow : OpenClaim := { program := "ytlaafbaheoeclaa", sum := "e50da9e36c80df0555d522cb3d5027ad062e2f32939d4550b753cde46e029e64", func := "loop.example/g01112/laws.FnDrained", spec := "fnDrained", unfollowed := true, recurses := true, apart := false }
def FnDrainedSaid : Prop := fnDrainedRow.holds Try.pinned (OpenSpec.ofChange fnDrainedSpec)

/-- ITS FALSE NEIGHBOUR: 'it returns false'. Refute it at one input. -/
def fnDrainedWrong : ChangeSpec := { name := "fnDrained", fn := fun _ => fun
  | [d1, d2] => { results := [.lit (.bool false)], args := [d1, d2] }
  | _ => none }
def FnDrainedWrongFalsely : Prop := fnDrainedRow.holds Try.pinned (OpenSpec.ofChange fnDrainedWrong)

/-- 'laws.FnExactBufferMemory': WHATEVER THE INPUT: true; the input reads as it did. -/
def fnExactBufferMemorySpec : ChangeSpec := { name := "fnExactBufferMemory", fn := fun _ => fun
  | [d1, d2] => { results := [.lit (.bool true)], args := [d1, d2] }
  | _ => none }
def fnExactBufferMemoryRow : OpenClaim := { program := "ytlaafbaheoeclaa", sum := "e50da9e36c80df0555d522cb3d5027ad062e2f32939d4550b753cde46e029e64", func := "loop.example/g01112/laws.FnExactBufferMemory", spec := "fnExactBufferMemory", unfollowed := true, recurses := true, apart := false }
def FnExactBufferMemorySaid : Prop := fnExactBufferMemoryRow.holds Try.pinned (OpenSpec.ofChange fnExactBufferMemorySpec)

/-- ITS FALSE NEIGHBOUR: 'it returns false'. Refute it at one input. -/
def fnExactBufferMemoryWrong : ChangeSpec := { name := "fnExactBufferMemory", fn := fun _ => fun
  | [d1, d2] => { results := [.lit (.bool false)], args := [d1, d2] }
  | _ => none }
def FnExactBufferMemoryWrongFalsely : Prop := fnExactBufferMemoryRow.holds Try.pinned (OpenSpec.ofChange fnExactBufferMemoryWrong)

/-- 'laws.FnExactBufferOrder': WHATEVER THE INPUT: true; the input reads as it did. -/
def fnExactBufferOrderSpec : ChangeSpec := { name := "fnExactBufferOrder", fn := fun _ => fun
  | [d1, d2] => { results := [.lit (.bool true)], args := [d1, d2] }
  | _ => none }
def fnExactBufferOrderRow : OpenClaim := { program := "ytlaafbaheoeclaa", sum := "e50da9e36c80df0555d522cb3d5027ad062e2f32939d4550b753cde46e029e64", func := "loop.example/g01112/laws.FnExactBufferOrder", spec := "fnExactBufferOrder", unfollowed := true, recurses := true, apart := false }
def FnExactBufferOrderSaid : Prop := fnExactBufferOrderRow.holds Try.pinned (OpenSpec.ofChange fnExactBufferOrderSpec)

/-- ITS FALSE NEIGHBOUR: 'it returns false'. Refute it at one input. -/
def fnExactBufferOrderWrong : ChangeSpec := { name := "fnExactBufferOrder", fn := fun _ => fun
  | [d1, d2] => { results := [.lit (.bool false)], args := [d1, d2] }
  | _ => none }
def FnExactBufferOrderWrongFalsely : Prop := fnExactBufferOrderRow.holds Try.pinned (OpenSpec.ofChange fnExactBufferOrderWrong)

/-- 'laws.FnExactChangeRule': WHATEVER THE INPUT: true; the input reads as it did. -/
def fnExactChangeRuleSpec : ChangeSpec := { name := "fnExactChangeRule", fn := fun _ => fun
  | [d1, d2, d3, d4] => { results := [.lit (.bool true)], args := [d1, d2, d3, d4] }
  | _ => none }
def fnExactChangeRuleRow : OpenClaim := { program := "ytlaafbaheoeclaa", sum := "e50da9e36c80df0555d522cb3d5027ad062e2f32939d4550b753cde46e029e64", func := "loop.example/g01112/laws.FnExactChangeRule", spec := "fnExactChangeRule", unfollowed := true, recurses := true, apart := false }
def FnExactChangeRuleSaid : Prop := fnExactChangeRuleRow.holds Try.pinned (OpenSpec.ofChange fnExactChangeRuleSpec)

/-- ITS FALSE NEIGHBOUR: 'it returns false'. Refute it at one input. -/
def fnExactChangeRuleWrong : ChangeSpec := { name := "fnExactChangeRule", fn := fun _ => fun
  | [d1, d2, d3, d4] => { results := [.lit (.bool false)], args := [d1, d2, d3, d4] }
  | _ => none }
def FnExactChangeRuleWrongFalsely : Prop := fnExactChangeRuleRow.holds Try.pinned (OpenSpec.ofChange fnExactChangeRuleWrong)

/-- 'laws.FnExactBusTraffic': WHATEVER THE INPUT: true; the input reads as it did. -/
def fnExactBusTrafficSpec : ChangeSpec := { name := "fnExactBusTraffic", fn := fun _ => fun
  | [d1, d2, d3] => { results := [.lit (.bool true)], args := [d1, d2, d3] }
  | _ => none }
def fnExactBusTrafficRow : OpenClaim := { program := "ytlaafbaheoeclaa", sum := "e50da9e36c80df0555d522cb3d5027ad062e2f32939d4550b753cde46e029e64", func := "loop.example/g01112/laws.FnExactBusTraffic", spec := "fnExactBusTraffic", unfollowed := true, recurses := true, apart := false }
def FnExactBusTrafficSaid : Prop := fnExactBusTrafficRow.holds Try.pinned (OpenSpec.ofChange fnExactBusTrafficSpec)

/-- ITS FALSE NEIGHBOUR: 'it returns false'. Refute it at one input. -/
def fnExactBusTrafficWrong : ChangeSpec := { name := "fnExactBusTraffic", fn := fun _ => fun
  | [d1, d2, d3] => { results := [.lit (.bool false)], args := [d1, d2, d3] }
  | _ => none }
def FnExactBusTrafficWrongFalsely : Prop := fnExactBusTrafficRow.holds Try.pinned (OpenSpec.ofChange fnExactBusTrafficWrong)

/-- 'laws.FnExactRunSystem': WHATEVER THE INPUT: true; the input reads as it did. -/
def fnExactRunSystemSpec : ChangeSpec := { name := "fnExactRunSystem", fn := fun _ => fun
  | [d1, d2, d3] => { results := [.lit (.bool true)], args := [d1, d2, d3] }
  | _ => none }
def fnExactRunSystemRow : OpenClaim := { program := "ytlaafbaheoeclaa", sum := "e50da9e36c80df0555d522cb3d5027ad062e2f32939d4550b753cde46e029e64", func := "loop.example/g01112/laws.FnExactRunSystem", spec := "fnExactRunSystem", unfollowed := true, recurses := true, apart := false }
def FnExactRunSystemSaid : Prop := fnExactRunSystemRow.holds Try.pinned (OpenSpec.ofChange fnExactRunSystemSpec)

/-- ITS FALSE NEIGHBOUR: 'it returns false'. Refute it at one input. -/
def fnExactRunSystemWrong : ChangeSpec := { name := "fnExactRunSystem", fn := fun _ => fun
  | [d1, d2, d3] => { results := [.lit (.bool false)], args := [d1, d2, d3] }
  | _ => none }
def FnExactRunSystemWrongFalsely : Prop := fnExactRunSystemRow.holds Try.pinned (OpenSpec.ofChange fnExactRunSystemWrong)

/- THE SECOND FORM. 'bulk': how many values and letters a reading holds, each counted each time it is reached (what is shared counts as often as it is met; a slice's spare places count too). A statement '..UptoSaid' is the law's where the arguments, and the package variables that the reading takes, are together of bulk at most 1048576: NARROWER than '..Said'. Prove '..Said' where nothing that the law and all that it calls make is longer than what came in: it says more and counts as full. Else prove '..UptoSaid'. A law counts once. -/
mutual
def uptoBulk {H : Type} : DataW H → Nat
  | .lit (.string bytes) => bytes.length + 1
  | .lit _ => 1
  | .nil => 1
  | .ptr d => uptoBulk d + 1
  | .slice elems spare => uptoBulkAll elems + uptoBulkAll spare + 1
  | .agg parts => uptoBulkAll parts + 1
  | .iface _ d => uptoBulk d + 1
  | .map entries => uptoBulkEntries entries + 1
  | .held _ => 1
def uptoBulkAll {H : Type} : List (DataW H) → Nat
  | [] => 0
  | d :: r => uptoBulk d + uptoBulkAll r
def uptoBulkEntries {H : Type} : List (Lit × DataW H) → Nat
  | [] => 0
  | x :: r => uptoBulkEntry x + uptoBulkEntries r
def uptoBulkEntry {H : Type} : Lit × DataW H → Nat
  | (.string bytes, d) => bytes.length + uptoBulk d + 1
  | (_, d) => uptoBulk d + 1
 end
def uptoSmall : (H : Type) → List (DataW H) → Bool := fun _ ds => decide (uptoBulkAll ds ≤ 1048576)
def OpenSpec.upto (s : _root_.Go.ChangeSpec) : _root_.Go.OpenSpec := { _root_.Go.OpenSpec.ofChange s with cond := some uptoSmall }

/-- 'laws.FnDrained', WHERE WHAT IT READS IS OF BULK AT MOST 1048576: true; the input reads as it did. -/
def fnDrainedUptoRow : OpenClaim := { program := "ytlaafbaheoeclaa", sum := "e50da9e36c80df0555d522cb3d5027ad062e2f32939d4550b753cde46e029e64", func := "loop.example/g01112/laws.FnDrained", spec := "fnDrained", unfollowed := true, recurses := true, apart := false, narrowed := true }
def FnDrainedUptoSaid : Prop := fnDrainedUptoRow.holds Try.pinned (OpenSpec.upto fnDrainedSpec)

/-- 'laws.FnExactBufferMemory', WHERE WHAT IT READS IS OF BULK AT MOST 1048576: true; the input reads as it did. -/
def fnExactBufferMemoryUptoRow : OpenClaim := { program := "ytlaafbaheoeclaa", sum := "e50da9e36c80df0555d522cb3d5027ad062e2f32939d4550b753cde46e029e64", func := "loop.example/g01112/laws.FnExactBufferMemory", spec := "fnExactBufferMemory", unfollowed := true, recurses := true, apart := false, narrowed := true }
def FnExactBufferMemoryUptoSaid : Prop := fnExactBufferMemoryUptoRow.holds Try.pinned (OpenSpec.upto fnExactBufferMemorySpec)

/-- 'laws.FnExactBufferOrder', WHERE WHAT IT READS IS OF BULK AT MOST 1048576: true; the input reads as it did. -/
def fnExactBufferOrderUptoRow : OpenClaim := { program := "ytlaafbaheoeclaa", sum := "e50da9e36c80df0555d522cb3d5027ad062e2f32939d4550b753cde46e029e64", func := "loop.example/g01112/laws.FnExactBufferOrder", spec := "fnExactBufferOrder", unfollowed := true, recurses := true, apart := false, narrowed := true }
def FnExactBufferOrderUptoSaid : Prop := fnExactBufferOrderUptoRow.holds Try.pinned (OpenSpec.upto fnExactBufferOrderSpec)

/-- 'laws.FnExactChangeRule', WHERE WHAT IT READS IS OF BULK AT MOST 1048576: true; the input reads as it did. -/
def fnExactChangeRuleUptoRow : OpenClaim := { program := "ytlaafbaheoeclaa", sum := "e50da9e36c80df0555d522cb3d5027ad062e2f32939d4550b753cde46e029e64", func := "loop.example/g01112/laws.FnExactChangeRule", spec := "fnExactChangeRule", unfollowed := true, recurses := true, apart := false, narrowed := true }
def FnExactChangeRuleUptoSaid : Prop := fnExactChangeRuleUptoRow.holds Try.pinned (OpenSpec.upto fnExactChangeRuleSpec)

/-- 'laws.FnExactBusTraffic', WHERE WHAT IT READS IS OF BULK AT MOST 1048576: true; the input reads as it did. -/
def fnExactBusTrafficUptoRow : OpenClaim := { program := "ytlaafbaheoeclaa", sum := "e50da9e36c80df0555d522cb3d5027ad062e2f32939d4550b753cde46e029e64", func := "loop.example/g01112/laws.FnExactBusTraffic", spec := "fnExactBusTraffic", unfollowed := true, recurses := true, apart := false, narrowed := true }
def FnExactBusTrafficUptoSaid : Prop := fnExactBusTrafficUptoRow.holds Try.pinned (OpenSpec.upto fnExactBusTrafficSpec)

/-- 'laws.FnExactRunSystem', WHERE WHAT IT READS IS OF BULK AT MOST 1048576: true; the input reads as it did. -/
def fnExactRunSystemUptoRow : OpenClaim := { program := "ytlaafbaheoeclaa", sum := "e50da9e36c80df0555d522cb3d5027ad062e2f32939d4550b753cde46e029e64", func := "loop.example/g01112/laws.FnExactRunSystem", spec := "fnExactRunSystem", unfollowed := true, recurses := true, apart := false, narrowed := true }
def FnExactRunSystemUptoSaid : Prop := fnExactRunSystemUptoRow.holds Try.pinned (OpenSpec.upto fnExactRunSystemSpec)

end Rows
end Go.Proofs.Ytlaafbaheoeclaa
