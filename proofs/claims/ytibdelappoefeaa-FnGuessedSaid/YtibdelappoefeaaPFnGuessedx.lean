-- Printed by this session's own program (wip/tools/xprint.py) over the kit's print; not trusted: Lean checks it.
import Derived.Test.YtibdelappoefeaaPFnGuessedx0
import Derived.Test.YtibdelappoefeaaPFnGuessedx1
import Derived.Test.YtibdelappoefeaaPFnGuessedx2
import Derived.Test.YtibdelappoefeaaPFnGuessedx3
import Derived.Test.YtibdelappoefeaaPFnGuessedx4
import Derived.Test.YtibdelappoefeaaPFnGuessedx5
namespace Go.Proofs.Ytibdelappoefeaa.PFnGuessed
open Go.RowKit Go.Proofs.YtibdelappoefeaaW.PrintWords Go.Proofs.YtibdelappoefeaaW.PrintLast Go.Proofs.YtibdelappoefeaaW.PrintMore
attribute [local go_sem] max2_int min2_int max_two min_two max_three min_three max_four min_four   -- for this text's walks alone
set_option linter.unusedVariables false
set_option linter.unusedSimpArgs false

end Go.Proofs.Ytibdelappoefeaa.PFnGuessed
