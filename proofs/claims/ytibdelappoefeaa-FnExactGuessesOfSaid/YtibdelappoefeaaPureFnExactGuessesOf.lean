/- The statement FnExactGuessesOf: the walk has it already. -/
import Derived.Test.YtibdelappoefeaaPFnExactGuessesOfx
namespace Go.Proofs.Ytibdelappoefeaa.Pure
open Go.RowKit Go.Proofs.YtibdelappoefeaaW.PrintWords Go.Proofs.Ytibdelappoefeaa.PFnExactGuessesOf

theorem FnExactGuessesOf : laws_FnExactGuessesOf.Pure := by
  unfold laws_FnExactGuessesOf.Pure
  intros
  rfl

end Go.Proofs.Ytibdelappoefeaa.Pure
