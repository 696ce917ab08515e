-- Words of the kit's print of which this claim uses some; what it does not use is left out by this session's own program (wip/tools/prune.py).
import Derived.Test.YtdkpdpdaggnmhaaGreatZExactDirtyLinesWInv
import Derived.Test.YtdkpdpdaggnmhaaGreatZExactDirtyLinesWFootNe
namespace Go.Proofs.YtdkpdpdaggnmhaaGreatW.PrintWords
open Go.RowKit
end Go.Proofs.YtdkpdpdaggnmhaaGreatW.PrintWords
namespace Go.Proofs.YtdkpdpdaggnmhaaGreatW.PrintLast
section
variable {ops : Array Oper} {a : Act} {o og : Oper} {g : Nat} {t : Tmp} {u : Bool}
end
end Go.Proofs.YtdkpdpdaggnmhaaGreatW.PrintLast
