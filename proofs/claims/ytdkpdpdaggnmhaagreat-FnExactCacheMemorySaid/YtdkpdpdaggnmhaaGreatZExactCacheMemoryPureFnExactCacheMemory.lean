/- The statement FnExactCacheMemory: the walk has it already. -/
import Derived.Test.YtdkpdpdaggnmhaaGreatZExactCacheMemoryPFnExactCacheMemoryx
namespace Go.Proofs.YtdkpdpdaggnmhaaGreat.Pure
open Go.RowKit Go.Proofs.YtdkpdpdaggnmhaaGreatW.PrintWords Go.Proofs.YtdkpdpdaggnmhaaGreat.PFnExactCacheMemory

theorem FnExactCacheMemory : laws_FnExactCacheMemory.Pure := by
  unfold laws_FnExactCacheMemory.Pure
  intros
  rfl

end Go.Proofs.YtdkpdpdaggnmhaaGreat.Pure
