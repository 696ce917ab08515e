/- The statement FnExactStepPolicy: the walk has it already. -/
import Derived.Test.YthahiogiafibmaaPFnExactStepPolicyx
namespace Go.Proofs.Ythahiogiafibmaa.Pure
open Go.RowKit Go.Proofs.YthahiogiafibmaaW.PrintWords Go.Proofs.Ythahiogiafibmaa.PFnExactStepPolicy

theorem FnExactStepPolicy : laws_FnExactStepPolicy.Pure := by
  unfold laws_FnExactStepPolicy.Pure
  intros
  rfl

end Go.Proofs.Ythahiogiafibmaa.Pure
