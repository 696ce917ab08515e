-- Words of the kit's print of which this claim uses some; what it does not use is left out by this session's own program (wip/tools/prune.py).
import Derived.Test.YtdkpdpdaggnmhaaGreatZExactDirtyLinesWN
/-! ### 52. A row that stays read whatever happens to a block (a set of blocks) doesn't lie there -/
namespace Go.Proofs.YtdkpdpdaggnmhaaGreatW.PrintWords
open Go.RowKit
namespace Kd
section
variable {α : Type} {d : Kd α} {W : World} {g n : Nat} {S ok : Nat → Prop} {A : Option Addr} {ad : Addr} {xs : List α}
end
end Kd
end Go.Proofs.YtdkpdpdaggnmhaaGreatW.PrintWords
