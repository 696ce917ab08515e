-- Printed by this session's own program (wip/tools/xprint.py) over the kit's print; not trusted: Lean checks it.
import Derived.Test.YtnocikchdkaabaaPFnExactValidLitmusx0
import Derived.Test.YtnocikchdkaabaaPFnExactValidLitmusx1
import Derived.Test.YtnocikchdkaabaaPFnExactValidLitmusx2
import Derived.Test.YtnocikchdkaabaaPFnExactValidLitmusx3
import Derived.Test.YtnocikchdkaabaaPFnExactValidLitmusx4
import Derived.Test.YtnocikchdkaabaaPFnExactValidLitmusx5
import Derived.Test.YtnocikchdkaabaaPFnExactValidLitmusx6
namespace Go.Proofs.Ytnocikchdkaabaa.PFnExactValidLitmus
open Go.RowKit Go.Proofs.YtnocikchdkaabaaW.PrintWords Go.Proofs.YtnocikchdkaabaaW.PrintLast Go.Proofs.YtnocikchdkaabaaW.PrintMore
attribute [local go_sem] max2_int min2_int max_two min_two max_three min_three max_four min_four   -- for this text's walks alone
set_option linter.unusedVariables false
set_option linter.unusedSimpArgs false

end Go.Proofs.Ytnocikchdkaabaa.PFnExactValidLitmus
