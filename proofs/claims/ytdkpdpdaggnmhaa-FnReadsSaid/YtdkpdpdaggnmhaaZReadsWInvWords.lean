-- Words of the kit's print of which this claim uses some; what it does not use is left out by this session's own program (wip/tools/prune.py).
import Derived.Test.YtdkpdpdaggnmhaaZReadsWInv
import Derived.Test.YtdkpdpdaggnmhaaZReadsWFootNe
namespace Go.Proofs.YtdkpdpdaggnmhaaW.PrintWords
open Go.RowKit
end Go.Proofs.YtdkpdpdaggnmhaaW.PrintWords
namespace Go.Proofs.YtdkpdpdaggnmhaaW.PrintLast
section
variable {ops : Array Oper} {a : Act} {o og : Oper} {g : Nat} {t : Tmp} {u : Bool}
end
end Go.Proofs.YtdkpdpdaggnmhaaW.PrintLast
