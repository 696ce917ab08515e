/- The statement FnExactMsiProtocol: the walk has it already. -/
import Derived.Test.YtnocikchdkaabaaPFnExactMsiProtocolx
namespace Go.Proofs.Ytnocikchdkaabaa.Pure
open Go.RowKit Go.Proofs.YtnocikchdkaabaaW.PrintWords Go.Proofs.Ytnocikchdkaabaa.PFnExactMsiProtocol

theorem FnExactMsiProtocol : laws_FnExactMsiProtocol.Pure := by
  unfold laws_FnExactMsiProtocol.Pure
  intros
  rfl

end Go.Proofs.Ytnocikchdkaabaa.Pure
