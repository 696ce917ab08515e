-- Words of the kit's print of which this claim uses some; what it does not use is left out by this session's own program (wip/tools/prune.py).
import Derived.Test.YtlaafbaheoeclaaZExactRunSystemWInv
import Derived.Test.YtlaafbaheoeclaaZExactRunSystemWFootNe
namespace Go.Proofs.YtlaafbaheoeclaaW.PrintWords
open Go.RowKit
end Go.Proofs.YtlaafbaheoeclaaW.PrintWords
namespace Go.Proofs.YtlaafbaheoeclaaW.PrintLast
section
variable {ops : Array Oper} {a : Act} {o og : Oper} {g : Nat} {t : Tmp} {u : Bool}
end
end Go.Proofs.YtlaafbaheoeclaaW.PrintLast
