/- The statement FnExactDirtyPages: the walk has it already. -/
import Derived.Test.YtpmglamjgfpmnaaZExactDirtyPagesPFnExactDirtyPagesx
namespace Go.Proofs.Ytpmglamjgfpmnaa.Pure
open Go.RowKit Go.Proofs.YtpmglamjgfpmnaaW.PrintWords Go.Proofs.Ytpmglamjgfpmnaa.PFnExactDirtyPages

theorem FnExactDirtyPages : laws_FnExactDirtyPages.Pure := by
  unfold laws_FnExactDirtyPages.Pure
  intros
  rfl

end Go.Proofs.Ytpmglamjgfpmnaa.Pure
