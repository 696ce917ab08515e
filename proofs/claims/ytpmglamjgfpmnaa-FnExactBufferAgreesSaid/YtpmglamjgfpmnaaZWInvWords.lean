-- Words of the kit's print of which this claim uses some; what it does not use is left out by this session's own program (wip/tools/prune.py).
import Derived.Test.YtpmglamjgfpmnaaZWInv
import Derived.Test.YtpmglamjgfpmnaaZWFootNe
namespace Go.Proofs.YtpmglamjgfpmnaaW.PrintWords
open Go.RowKit
end Go.Proofs.YtpmglamjgfpmnaaW.PrintWords
namespace Go.Proofs.YtpmglamjgfpmnaaW.PrintLast
section
variable {ops : Array Oper} {a : Act} {o og : Oper} {g : Nat} {t : Tmp} {u : Bool}
end
end Go.Proofs.YtpmglamjgfpmnaaW.PrintLast
