/- The statement FnExactThroughProtocol: the walk has it already. -/
import Derived.Test.YtnocikchdkaabaaPFnExactThroughProtocolx
namespace Go.Proofs.Ytnocikchdkaabaa.Pure
open Go.RowKit Go.Proofs.YtnocikchdkaabaaW.PrintWords Go.Proofs.Ytnocikchdkaabaa.PFnExactThroughProtocol

theorem FnExactThroughProtocol : laws_FnExactThroughProtocol.Pure := by
  unfold laws_FnExactThroughProtocol.Pure
  intros
  rfl

end Go.Proofs.Ytnocikchdkaabaa.Pure
