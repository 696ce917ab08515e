/- The statement FnExactLevelContents: the walk has it already. -/
import Derived.Test.YtpndbaomhcehdaaZExactLevelContentsPFnExactLevelContentsx
namespace Go.Proofs.Ytpndbaomhcehdaa.Pure
open Go.RowKit Go.Proofs.YtpndbaomhcehdaaW.PrintWords Go.Proofs.Ytpndbaomhcehdaa.PFnExactLevelContents

theorem FnExactLevelContents : laws_FnExactLevelContents.Pure := by
  unfold laws_FnExactLevelContents.Pure
  intros
  rfl

end Go.Proofs.Ytpndbaomhcehdaa.Pure
