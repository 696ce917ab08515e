-- Words of the kit's print of which this claim uses some; what it does not use is left out by this session's own program (wip/tools/prune.py).
import Derived.Test.YtpndbaomhcehdaaZLruIncludedWLast
import Derived.Test.YtpndbaomhcehdaaZLruIncludedWWords
/-! ### 50. A region's order in a table, made once a region: each step asks the table (numbers alone), not the operations -/
namespace Go.Proofs.YtpndbaomhcehdaaW.PrintLast
open Go.Proofs.YtpndbaomhcehdaaW.PrintWords (Aside0)
section
variable {md : Region.Mode} {ops : Array Oper} {T : Bool × List (List Nat × List Nat)} {l l' li lj lk : Array Bool} {ds : List Nat} {i j k : Nat}
end
end Go.Proofs.YtpndbaomhcehdaaW.PrintLast
