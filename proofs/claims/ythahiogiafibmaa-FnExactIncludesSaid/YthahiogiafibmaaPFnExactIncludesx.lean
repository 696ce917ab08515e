-- Printed by this session's own program (wip/tools/xprint.py) over the kit's print; not trusted: Lean checks it.
import Derived.Test.YthahiogiafibmaaPFnExactIncludesx0
import Derived.Test.YthahiogiafibmaaPFnExactIncludesx1
import Derived.Test.YthahiogiafibmaaPFnExactIncludesx2
import Derived.Test.YthahiogiafibmaaPFnExactIncludesx3
import Derived.Test.YthahiogiafibmaaPFnExactIncludesx4
import Derived.Test.YthahiogiafibmaaPFnExactIncludesx5
import Derived.Test.YthahiogiafibmaaPFnExactIncludesx6
import Derived.Test.YthahiogiafibmaaPFnExactIncludesx7
import Derived.Test.YthahiogiafibmaaPFnExactIncludesx8
namespace Go.Proofs.Ythahiogiafibmaa.PFnExactIncludes
open Go.RowKit Go.Proofs.YthahiogiafibmaaW.PrintWords Go.Proofs.YthahiogiafibmaaW.PrintLast Go.Proofs.YthahiogiafibmaaW.PrintMore
attribute [local go_sem] max2_int min2_int max_two min_two max_three min_three max_four min_four   -- for this text's walks alone
set_option linter.unusedVariables false
set_option linter.unusedSimpArgs false

end Go.Proofs.Ythahiogiafibmaa.PFnExactIncludes
