-- Words of the kit's print of which this claim uses some; what it does not use is left out by this session's own program (wip/tools/prune.py).
import Derived.Test.YtdkpdpdaggnmhaaZReadsWWords
import Derived.Test.YtdkpdpdaggnmhaaZReadsWLast
namespace Go.Proofs.YtdkpdpdaggnmhaaW.PrintWords
open Go.RowKit
namespace Kd
section
variable {α : Type} {d : Kd α} {e base g o n cap : Nat} {ok okp : Nat → Prop} {w W : World} {v : Value} {xs : List α}
end
section
variable {α : Type} {enc : α → Value} {h1 : ∀ x, (enc x).oneCell' = true} {e base g o n cap : Nat} {ok : Nat → Prop} {W : World} {xs : List α}
end
end Kd
end Go.Proofs.YtdkpdpdaggnmhaaW.PrintWords
