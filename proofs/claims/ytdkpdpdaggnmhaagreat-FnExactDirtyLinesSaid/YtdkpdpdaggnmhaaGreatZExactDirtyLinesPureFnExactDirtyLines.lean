/- The statement FnExactDirtyLines: the walk has it already. -/
import Derived.Test.YtdkpdpdaggnmhaaGreatZExactDirtyLinesPFnExactDirtyLinesx
namespace Go.Proofs.YtdkpdpdaggnmhaaGreat.Pure
open Go.RowKit Go.Proofs.YtdkpdpdaggnmhaaGreatW.PrintWords Go.Proofs.YtdkpdpdaggnmhaaGreat.PFnExactDirtyLines

theorem FnExactDirtyLines : laws_FnExactDirtyLines.Pure := by
  unfold laws_FnExactDirtyLines.Pure
  intros
  rfl

end Go.Proofs.YtdkpdpdaggnmhaaGreat.Pure
