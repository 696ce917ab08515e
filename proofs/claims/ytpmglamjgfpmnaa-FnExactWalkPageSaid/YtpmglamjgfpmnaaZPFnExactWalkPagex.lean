-- Printed by this session's own program (wip/tools/xprint.py) over the kit's print; not trusted: Lean checks it.
import Derived.Test.YtpmglamjgfpmnaaZPFnExactWalkPagex0
import Derived.Test.YtpmglamjgfpmnaaZPFnExactWalkPagex1
import Derived.Test.YtpmglamjgfpmnaaZPFnExactWalkPagex2
import Derived.Test.YtpmglamjgfpmnaaZPFnExactWalkPagex3
import Derived.Test.YtpmglamjgfpmnaaZPFnExactWalkPagex4
import Derived.Test.YtpmglamjgfpmnaaZPFnExactWalkPagex5
import Derived.Test.YtpmglamjgfpmnaaZPFnExactWalkPagex6
import Derived.Test.YtpmglamjgfpmnaaZPFnExactWalkPagex7
import Derived.Test.YtpmglamjgfpmnaaZPFnExactWalkPagex8
import Derived.Test.YtpmglamjgfpmnaaZPFnExactWalkPagex9
import Derived.Test.YtpmglamjgfpmnaaZPFnExactWalkPagex10
import Derived.Test.YtpmglamjgfpmnaaZPFnExactWalkPagex11
import Derived.Test.YtpmglamjgfpmnaaZPFnExactWalkPagex12
namespace Go.Proofs.Ytpmglamjgfpmnaa.PFnExactWalkPage
open Go.RowKit Go.Proofs.YtpmglamjgfpmnaaW.PrintWords Go.Proofs.YtpmglamjgfpmnaaW.PrintLast Go.Proofs.YtpmglamjgfpmnaaW.PrintMore
attribute [local go_sem] max2_int min2_int max_two min_two max_three min_three max_four min_four   -- for this text's walks alone
set_option linter.unusedVariables false
set_option linter.unusedSimpArgs false

end Go.Proofs.Ytpmglamjgfpmnaa.PFnExactWalkPage
