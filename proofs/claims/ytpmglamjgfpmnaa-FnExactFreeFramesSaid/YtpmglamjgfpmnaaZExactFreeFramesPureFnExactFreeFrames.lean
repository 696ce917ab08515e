/- The statement FnExactFreeFrames: the walk has it already. -/
import Derived.Test.YtpmglamjgfpmnaaZExactFreeFramesPFnExactFreeFramesx
namespace Go.Proofs.Ytpmglamjgfpmnaa.Pure
open Go.RowKit Go.Proofs.YtpmglamjgfpmnaaW.PrintWords Go.Proofs.Ytpmglamjgfpmnaa.PFnExactFreeFrames

theorem FnExactFreeFrames : laws_FnExactFreeFrames.Pure := by
  unfold laws_FnExactFreeFrames.Pure
  intros
  rfl

end Go.Proofs.Ytpmglamjgfpmnaa.Pure
