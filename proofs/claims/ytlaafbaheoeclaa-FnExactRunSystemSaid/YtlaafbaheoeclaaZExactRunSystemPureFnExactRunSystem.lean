/- The statement FnExactRunSystem: the walk has it already. -/
import Derived.Test.YtlaafbaheoeclaaZExactRunSystemPFnExactRunSystemx
namespace Go.Proofs.Ytlaafbaheoeclaa.Pure
open Go.RowKit Go.Proofs.YtlaafbaheoeclaaW.PrintWords Go.Proofs.Ytlaafbaheoeclaa.PFnExactRunSystem

theorem FnExactRunSystem : laws_FnExactRunSystem.Pure := by
  unfold laws_FnExactRunSystem.Pure
  intros
  rfl

end Go.Proofs.Ytlaafbaheoeclaa.Pure
