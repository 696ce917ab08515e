-- Printed by this session's own program (wip/tools/xprint.py) over the kit's print; not trusted: Lean checks it.
import Derived.Test.YthahiogiafibmaaPFnExactStepPolicyx0
import Derived.Test.YthahiogiafibmaaPFnExactStepPolicyx1
import Derived.Test.YthahiogiafibmaaPFnExactStepPolicyx2
import Derived.Test.YthahiogiafibmaaPFnExactStepPolicyx3
import Derived.Test.YthahiogiafibmaaPFnExactStepPolicyx4
import Derived.Test.YthahiogiafibmaaPFnExactStepPolicyx5
import Derived.Test.YthahiogiafibmaaPFnExactStepPolicyx6
import Derived.Test.YthahiogiafibmaaPFnExactStepPolicyx7
namespace Go.Proofs.Ythahiogiafibmaa.PFnExactStepPolicy
open Go.RowKit Go.Proofs.YthahiogiafibmaaW.PrintWords Go.Proofs.YthahiogiafibmaaW.PrintLast Go.Proofs.YthahiogiafibmaaW.PrintMore
attribute [local go_sem] max2_int min2_int max_two min_two max_three min_three max_four min_four   -- for this text's walks alone
set_option linter.unusedVariables false
set_option linter.unusedSimpArgs false

end Go.Proofs.Ythahiogiafibmaa.PFnExactStepPolicy
