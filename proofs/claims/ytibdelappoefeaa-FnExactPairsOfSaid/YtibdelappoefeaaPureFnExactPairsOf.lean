/- The statement FnExactPairsOf: the walk has it already. -/
import Derived.Test.YtibdelappoefeaaPFnExactPairsOfx
namespace Go.Proofs.Ytibdelappoefeaa.Pure
open Go.RowKit Go.Proofs.YtibdelappoefeaaW.PrintWords Go.Proofs.Ytibdelappoefeaa.PFnExactPairsOf

theorem FnExactPairsOf : laws_FnExactPairsOf.Pure := by
  unfold laws_FnExactPairsOf.Pure
  intros
  rfl

end Go.Proofs.Ytibdelappoefeaa.Pure
