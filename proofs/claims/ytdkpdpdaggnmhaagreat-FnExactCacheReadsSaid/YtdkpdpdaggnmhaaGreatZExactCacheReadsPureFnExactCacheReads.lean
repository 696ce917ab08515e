/- The statement FnExactCacheReads: the walk has it already. -/
import Derived.Test.YtdkpdpdaggnmhaaGreatZExactCacheReadsPFnExactCacheReadsx
namespace Go.Proofs.YtdkpdpdaggnmhaaGreat.Pure
open Go.RowKit Go.Proofs.YtdkpdpdaggnmhaaGreatW.PrintWords Go.Proofs.YtdkpdpdaggnmhaaGreat.PFnExactCacheReads

theorem FnExactCacheReads : laws_FnExactCacheReads.Pure := by
  unfold laws_FnExactCacheReads.Pure
  intros
  rfl

end Go.Proofs.YtdkpdpdaggnmhaaGreat.Pure
