/- The statement FnExactMappedPages: the walk has it already. -/
import Derived.Test.YtpmglamjgfpmnaaZExactMappedPagesPFnExactMappedPagesx
namespace Go.Proofs.Ytpmglamjgfpmnaa.Pure
open Go.RowKit Go.Proofs.YtpmglamjgfpmnaaW.PrintWords Go.Proofs.Ytpmglamjgfpmnaa.PFnExactMappedPages

theorem FnExactMappedPages : laws_FnExactMappedPages.Pure := by
  unfold laws_FnExactMappedPages.Pure
  intros
  rfl

end Go.Proofs.Ytpmglamjgfpmnaa.Pure
