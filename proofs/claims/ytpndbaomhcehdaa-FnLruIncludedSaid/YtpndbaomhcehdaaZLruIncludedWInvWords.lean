-- Words of the kit's print of which this claim uses some; what it does not use is left out by this session's own program (wip/tools/prune.py).
import Derived.Test.YtpndbaomhcehdaaZLruIncludedWInv
import Derived.Test.YtpndbaomhcehdaaZLruIncludedWFootNe
namespace Go.Proofs.YtpndbaomhcehdaaW.PrintWords
open Go.RowKit
end Go.Proofs.YtpndbaomhcehdaaW.PrintWords
namespace Go.Proofs.YtpndbaomhcehdaaW.PrintLast
section
variable {ops : Array Oper} {a : Act} {o og : Oper} {g : Nat} {t : Tmp} {u : Bool}
end
end Go.Proofs.YtpndbaomhcehdaaW.PrintLast
