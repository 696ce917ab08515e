-- Printed by this session's own program (wip/tools/xprint.py) over the kit's print; not trusted: Lean checks it.
import Derived.Test.YtnocikchdkaabaaPFnExactValidProtocolx0
import Derived.Test.YtnocikchdkaabaaPFnExactValidProtocolx1
import Derived.Test.YtnocikchdkaabaaPFnExactValidProtocolx2
import Derived.Test.YtnocikchdkaabaaPFnExactValidProtocolx3
import Derived.Test.YtnocikchdkaabaaPFnExactValidProtocolx4
namespace Go.Proofs.Ytnocikchdkaabaa.PFnExactValidProtocol
open Go.RowKit Go.Proofs.YtnocikchdkaabaaW.PrintWords Go.Proofs.YtnocikchdkaabaaW.PrintLast Go.Proofs.YtnocikchdkaabaaW.PrintMore
attribute [local go_sem] max2_int min2_int max_two min_two max_three min_three max_four min_four   -- for this text's walks alone
set_option linter.unusedVariables false
set_option linter.unusedSimpArgs false

end Go.Proofs.Ytnocikchdkaabaa.PFnExactValidProtocol
