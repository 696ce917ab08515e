/-
  No cell of these rows narrows 'for every input' (looked for: loops, veiled, ifaces, maps, wideKeys, modest, calm, conditions, laid).
  DERIVED. THE GIVEN ROWS OF THIS SEAT. 5 by the template 'for every input the law returns true; each argument reads behind the call as it read before'; 0 by the template 'total and deterministic' (their statements: YtpmglamjgfpmnaaTotals.lean).
  GIVEN WITH THE SEED: the statements are not yours to turn. If you find one false, say at which input.
  Laid BY PROGRAM, IN A SANDBOX (cutbox-rows.mjs): the forced cells as the released guide's own fill.sh prints them over the translation 8cedbb619236ec34… (all of the seat's roots in one cut). By AI agents, Wed Nov 11 2026. No macro, syntax, notation, axiom, sorry.
-/
import Derived.Test.YtpmglamjgfpmnaaChecked
import GoSem.Claim
import GoSem.ClaimJoined
import GoSem.ClaimMapViews
import Derived.JoinedTies
import Derived.KernelRfl
namespace Go.Proofs.Ytpmglamjgfpmnaa
/- THE CELL 'sum', in the pinned program and in every row, IS THE sha256 OF THE DUMP (.gsa) THAT YtpmglamjgfpmnaaProg.lean LOADS. Nothing in Lean hashes anything: it is a label: what it is worth is what the hold of that sum in a sandbox is worth. -/
noncomputable def Try.pinned : Pinned := { name := "ytpmglamjgfpmnaa", sum := "8cedbb619236ec3497f70df24ad45af5f50a839cb4bc967083a2b590d1354b50", checked := Try.checked }
namespace Rows
def none {H : Type} : Left H := { results := [], args := [] }

/-- 'laws.FnExactBufferAgrees': WHATEVER THE INPUT: true; the input reads as it did. -/
def fnExactBufferAgreesSpec : ChangeSpec := { name := "fnExactBufferAgrees", fn := fun _ => fun
  | [d] => { results := [.lit (.bool true)], args := [d] }
  | _ => none }
def fnExactBufferAgreesRow : OpenClaim := { program := "ytpmglamjgfpmnaa", sum := "8cedbb619236ec3497f70df24ad45af5f50a839cb4bc967083a2b590d1354b50", func := "loop.example/g01112/laws.FnExactBufferAgrees", spec := "fnExactBufferAgrees", unfollowed := true, recurses := true, apart := false }
def FnExactBufferAgreesSaid : Prop := fnExactBufferAgreesRow.holds Try.pinned (OpenSpec.ofChange fnExactBufferAgreesSpec)

/-- ITS FALSE NEIGHBOUR: 'it returns false'. Refute it at one input. -/
def fnExactBufferAgreesWrong : ChangeSpec := { name := "fnExactBufferAgrees", fn := fun _ => fun
  | [d] => { results := [.lit (.bool false)], args := [d] }
  | _ => none }
def FnExactBufferAgreesWrongFalsely : Prop := fnExactBufferAgreesRow.holds Try.pinned (OpenSpec.ofChange fnExactBufferAgreesWrong)

/-- 'laws.FnExactWalkPage': WHATEVER THE INPUT: true; the input reads as it did. -/
def fnExactWalkPageSpec : ChangeSpec := { name := "fnExactWalkPage", fn := fun _ => fun
  | [d1, d2] => { results := [.lit (.bool true)], args := [d1, d2] }
  | _ => none }
def fnExactWalkPageRow : OpenClaim := { program := "ytpmglamjgfpmnaa", sum := "8cedbb619236ec3497f70df24ad45af5f50a839cb4bc967083a2b590d1354b50", func := "loop.example/g01112/laws.FnExactWalkPage", spec := "fnExactWalkPage", unfollowed := true, recurses := true, apart := false }
def FnExactWalkPageSaid : Prop := fnExactWalkPageRow.holds Try.pinned (OpenSpec.ofChange fnExactWalkPageSpec)

/-- ITS FALSE NEIGHBOUR: 'it returns false'. Refute it at one input. -/
def fnExactWalkPageWrong : ChangeSpec := { name := "fnExactWalkPage", fn := fun _ => fun
  | [d1, d2] => { results := [.lit (.bool false)], args := [d1, d2] }
  | _ => none }
def FnExactWalkPageWrongFalsely : Prop := fnExactWalkPageRow.holds Try.pinned (OpenSpec.ofChange fnExactWalkPageWrong)

/-- 'laws.FnExactMappedPages': WHATEVER THE INPUT: true; the input reads as it did. -/
def fnExactMappedPagesSpec : ChangeSpec := { name := "fnExactMappedPages", fn := fun _ => fun
  | [d] => { results := [.lit (.bool true)], args := [d] }
  | _ => none }
def fnExactMappedPagesRow : OpenClaim := { program := "ytpmglamjgfpmnaa", sum := "8cedbb619236ec3497f70df24ad45af5f50a839cb4bc967083a2b590d1354b50", func := "loop.example/g01112/laws.FnExactMappedPages", spec := "fnExactMappedPages", unfollowed := true, recurses := true, apart := false }
def FnExactMappedPagesSaid : Prop := fnExactMappedPagesRow.holds Try.pinned (OpenSpec.ofChange fnExactMappedPagesSpec)

/-- ITS FALSE NEIGHBOUR: 'it returns false'. Refute it at one input. -/
def fnExactMappedPagesWrong : ChangeSpec := { name := "fnExactMappedPages", fn := fun _ => fun
  | [d] => { results := [.lit (.bool false)], args := [d] }
  | _ => none }
def FnExactMappedPagesWrongFalsely : Prop := fnExactMappedPagesRow.holds Try.pinned (OpenSpec.ofChange fnExactMappedPagesWrong)

/-- 'laws.FnExactDirtyPages': WHATEVER THE INPUT: true; the input reads as it did. -/
def fnExactDirtyPagesSpec : ChangeSpec := { name := "fnExactDirtyPages", fn := fun _ => fun
  | [d] => { results := [.lit (.bool true)], args := [d] }
  | _ => none }
def fnExactDirtyPagesRow : OpenClaim := { program := "ytpmglamjgfpmnaa", sum := "8cedbb619236ec3497f70df24ad45af5f50a839cb4bc967083a2b590d1354b50", func := "loop.example/g01112/laws.FnExactDirtyPages", spec := "fnExactDirtyPages", unfollowed := true, recurses := true, apart := false }
def FnExactDirtyPagesSaid : Prop := fnExactDirtyPagesRow.holds Try.pinned (OpenSpec.ofChange fnExactDirtyPagesSpec)

/-- ITS FALSE NEIGHBOUR: 'it returns false'. Refute it at one input. -/
def fnExactDirtyPagesWrong : ChangeSpec := { name := "fnExactDirtyPages", fn := fun _ => fun
  | [d] => { results := [.lit (.bool false)], args := [d] }
  | _ => none }
def FnExactDirtyPagesWrongFalsely : Prop := fnExactDirtyPagesRow.holds Try.pinned (OpenSpec.ofChange fnExactDirtyPagesWrong)

/-- 'laws.FnExactFreeFrames': WHATEVER THE INPUT: true; the input reads as it did. -/
def fnExactFreeFramesSpec : ChangeSpec := { name := "fnExactFreeFrames", fn := fun _ => fun
  | [d] => { results := [.lit (.bool true)], args := [d] }
  | _ => none }
def fnExactFreeFramesRow : OpenClaim := { program := "ytpmglamjgfpmnaa", sum := "8cedbb619236ec3497f70df24ad45af5f50a839cb4bc967083a2b590d1354b50", func := "loop.example/g01112/laws.FnExactFreeFrames", spec := "fnExactFreeFrames", unfollowed := true, recurses := true, apart := false }
def FnExactFreeFramesSaid : Prop := fnExactFreeFramesRow.holds Try.pinned (OpenSpec.ofChange fnExactFreeFramesSpec)

/-- ITS FALSE NEIGHBOUR: 'it returns false'. Refute it at one input. -/
def fnExactFreeFramesWrong : ChangeSpec := { name := "fnExactFreeFrames", fn := fun _ => fun
  | [d] => { results := [.lit (.bool false)], args := [d] }
  | _ => none }
def FnExactFreeFramesWrongFalsely : Prop := fnExactFreeFramesRow.holds Try.pinned (OpenSpec.ofChange fnExactFreeFramesWrong)

/- THE SECOND FORM. 'bulk': how many values and letters a reading holds, each counted each time it is reached (what is shared counts as often as it is met; a slice's spare places count too). A statement '..UptoSaid' is the law's where the arguments, and the package variables that the reading takes, are together of bulk at most 1048576: NARROWER than '..Said'. Prove '..Said' where nothing that the law and all that it calls make is longer than what came in: it says more and counts as full. Else prove '..UptoSaid'. A law counts once. -/
mutual
def uptoBulk {H : Type} : DataW H → Nat
  | .lit (.string bytes) => bytes.length + 1
  | .lit _ => 1
  | .nil => 1
  | .ptr d => uptoBulk d + 1
  | .slice elems spare => uptoBulkAll elems + uptoBulkAll spare + 1
  | .agg parts => uptoBulkAll parts + 1
  | .iface _ d => uptoBulk d + 1
  | .map entries => uptoBulkEntries entries + 1
  | .held _ => 1
def uptoBulkAll {H : Type} : List (DataW H) → Nat
  | [] => 0
  | d :: r => uptoBulk d + uptoBulkAll r
def uptoBulkEntries {H : Type} : List (Lit × DataW H) → Nat
  | [] => 0
  | x :: r => uptoBulkEntry x + uptoBulkEntries r
def uptoBulkEntry {H : Type} : Lit × DataW H → Nat
  | (.string bytes, d) => bytes.length + uptoBulk d + 1
  | (_, d) => uptoBulk d + 1
 end
def uptoSmall : (H : Type) → List (DataW H) → Bool := fun _ ds => decide (uptoBulkAll ds ≤ 1048576)
def OpenSpec.upto (s : _root_.Go.ChangeSpec) : _root_.Go.OpenSpec := { _root_.Go.OpenSpec.ofChange s with cond := some uptoSmall }

/-- 'laws.FnExactBufferAgrees', WHERE WHAT IT READS IS OF BULK AT MOST 1048576: true; the input reads as it did. -/
def fnExactBufferAgreesUptoRow : OpenClaim := { program := "ytpmglamjgfpmnaa", sum := "8cedbb619236ec3497f70df24ad45af5f50a839cb4bc967083a2b590d1354b50", func := "loop.example/g01112/laws.FnExactBufferAgrees", spec := "fnExactBufferAgrees", unfollowed := true, recurses := true, apart := false, narrowed := true }
def FnExactBufferAgreesUptoSaid : Prop := fnExactBufferAgreesUptoRow.holds Try.pinned (OpenSpec.upto fnExactBufferAgreesSpec)

/-- 'laws.FnExactWalkPage', WHERE WHAT IT READS IS OF BULK AT MOST 1048576: true; the input reads as it did. -/
def fnExactWalkPageUptoRow : OpenClaim := { program := "ytpmglamjgfpmnaa", sum := "8cedbb619236ec3497f70df24ad45af5f50a839cb4bc967083a2b590d1354b50", func := "loop.example/g01112/laws.FnExactWalkPage", spec := "fnExactWalkPage", unfollowed := true, recurses := true, apart := false, narrowed := true }
def FnExactWalkPageUptoSaid : Prop := fnExactWalkPageUptoRow.holds Try.pinned (OpenSpec.upto fnExactWalkPageSpec)

/-- 'laws.FnExactMappedPages', WHERE WHAT IT READS IS OF BULK AT MOST 1048576: true; the input reads as it did. -/
def fnExactMappedPagesUptoRow : OpenClaim := { program := "ytpmglamjgfpmnaa", sum := "8cedbb619236ec3497f70df24ad45af5f50a839cb4bc967083a2b590d1354b50", func := "loop.example/g01112/laws.FnExactMappedPages", spec := "fnExactMappedPages", unfollowed := true, recurses := true, apart := false, narrowed := true }
def FnExactMappedPagesUptoSaid : Prop := fnExactMappedPagesUptoRow.holds Try.pinned (OpenSpec.upto fnExactMappedPagesSpec)

/-- 'laws.FnExactDirtyPages', WHERE WHAT IT READS IS OF BULK AT MOST 1048576: true; the input reads as it did. -/
def fnExactDirtyPagesUptoRow : OpenClaim := { program := "ytpmglamjgfpmnaa", sum := "8cedbb619236ec3497f70df24ad45af5f50a839cb4bc967083a2b590d1354b50", func := "loop.example/g01112/laws.FnExactDirtyPages", spec := "fnExactDirtyPages", unfollowed := true, recurses := true, apart := false, narrowed := true }
def FnExactDirtyPagesUptoSaid : Prop := fnExactDirtyPagesUptoRow.holds Try.pinned (OpenSpec.upto fnExactDirtyPagesSpec)

/-- 'laws.FnExactFreeFrames', WHERE WHAT IT READS IS OF BULK AT MOST 1048576: true; the input reads as it did. -/
def fnExactFreeFramesUptoRow : OpenClaim := { program := "ytpmglamjgfpmnaa", sum := "8cedbb619236ec3497f70df24ad45af5f50a839cb4bc967083a2b590d1354b50", func := "loop.example/g01112/laws.FnExactFreeFrames", spec := "fnExactFreeFrames", unfollowed := true, recurses := true, apart := false, narrowed := true }
def FnExactFreeFramesUptoSaid : Prop := fnExactFreeFramesUptoRow.holds Try.pinned (OpenSpec.upto fnExactFreeFramesSpec)

end Rows
end Go.Proofs.Ytpmglamjgfpmnaa
