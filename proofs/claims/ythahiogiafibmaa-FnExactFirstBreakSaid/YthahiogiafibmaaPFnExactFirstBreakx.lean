-- Printed by this session's own program (wip/tools/xprint.py) over the kit's print; not trusted: Lean checks it.
import Derived.Test.YthahiogiafibmaaPFnExactFirstBreakx0
import Derived.Test.YthahiogiafibmaaPFnExactFirstBreakx1
import Derived.Test.YthahiogiafibmaaPFnExactFirstBreakx2
import Derived.Test.YthahiogiafibmaaPFnExactFirstBreakx3
import Derived.Test.YthahiogiafibmaaPFnExactFirstBreakx4
import Derived.Test.YthahiogiafibmaaPFnExactFirstBreakx5
import Derived.Test.YthahiogiafibmaaPFnExactFirstBreakx6
import Derived.Test.YthahiogiafibmaaPFnExactFirstBreakx7
import Derived.Test.YthahiogiafibmaaPFnExactFirstBreakx8
namespace Go.Proofs.Ythahiogiafibmaa.PFnExactFirstBreak
open Go.RowKit Go.Proofs.YthahiogiafibmaaW.PrintWords Go.Proofs.YthahiogiafibmaaW.PrintLast Go.Proofs.YthahiogiafibmaaW.PrintMore
attribute [local go_sem] max2_int min2_int max_two min_two max_three min_three max_four min_four   -- for this text's walks alone
set_option linter.unusedVariables false
set_option linter.unusedSimpArgs false

end Go.Proofs.Ythahiogiafibmaa.PFnExactFirstBreak
