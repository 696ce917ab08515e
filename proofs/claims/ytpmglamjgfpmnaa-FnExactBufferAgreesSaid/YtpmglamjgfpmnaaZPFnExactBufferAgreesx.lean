-- Printed by this session's own program (wip/tools/xprint.py) over the kit's print; not trusted: Lean checks it.
import Derived.Test.YtpmglamjgfpmnaaZPFnExactBufferAgreesx0
import Derived.Test.YtpmglamjgfpmnaaZPFnExactBufferAgreesx1
import Derived.Test.YtpmglamjgfpmnaaZPFnExactBufferAgreesx2
import Derived.Test.YtpmglamjgfpmnaaZPFnExactBufferAgreesx3
import Derived.Test.YtpmglamjgfpmnaaZPFnExactBufferAgreesx4
import Derived.Test.YtpmglamjgfpmnaaZPFnExactBufferAgreesx5
import Derived.Test.YtpmglamjgfpmnaaZPFnExactBufferAgreesx6
import Derived.Test.YtpmglamjgfpmnaaZPFnExactBufferAgreesx7
import Derived.Test.YtpmglamjgfpmnaaZPFnExactBufferAgreesx8
import Derived.Test.YtpmglamjgfpmnaaZPFnExactBufferAgreesx9
import Derived.Test.YtpmglamjgfpmnaaZPFnExactBufferAgreesx10
import Derived.Test.YtpmglamjgfpmnaaZPFnExactBufferAgreesx11
import Derived.Test.YtpmglamjgfpmnaaZPFnExactBufferAgreesx12
namespace Go.Proofs.Ytpmglamjgfpmnaa.PFnExactBufferAgrees
open Go.RowKit Go.Proofs.YtpmglamjgfpmnaaW.PrintWords Go.Proofs.YtpmglamjgfpmnaaW.PrintLast Go.Proofs.YtpmglamjgfpmnaaW.PrintMore
attribute [local go_sem] max2_int min2_int max_two min_two max_three min_three max_four min_four   -- for this text's walks alone
set_option linter.unusedVariables false
set_option linter.unusedSimpArgs false

end Go.Proofs.Ytpmglamjgfpmnaa.PFnExactBufferAgrees
