/- The statement FnExactRunLevels: the walk has it already. -/
import Derived.Test.YtpndbaomhcehdaaZExactRunLevelsPFnExactRunLevelsx
namespace Go.Proofs.Ytpndbaomhcehdaa.Pure
open Go.RowKit Go.Proofs.YtpndbaomhcehdaaW.PrintWords Go.Proofs.Ytpndbaomhcehdaa.PFnExactRunLevels

theorem FnExactRunLevels : laws_FnExactRunLevels.Pure := by
  unfold laws_FnExactRunLevels.Pure
  intros
  rfl

end Go.Proofs.Ytpndbaomhcehdaa.Pure
