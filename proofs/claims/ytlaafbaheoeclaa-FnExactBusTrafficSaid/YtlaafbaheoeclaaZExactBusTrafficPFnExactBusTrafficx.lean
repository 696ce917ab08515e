-- Printed by this session's own program (wip/tools/xprint.py) over the kit's print; not trusted: Lean checks it.
import Derived.Test.YtlaafbaheoeclaaZExactBusTrafficPFnExactBusTrafficx0
import Derived.Test.YtlaafbaheoeclaaZExactBusTrafficPFnExactBusTrafficx1
import Derived.Test.YtlaafbaheoeclaaZExactBusTrafficPFnExactBusTrafficx2
import Derived.Test.YtlaafbaheoeclaaZExactBusTrafficPFnExactBusTrafficx3
import Derived.Test.YtlaafbaheoeclaaZExactBusTrafficPFnExactBusTrafficx4
import Derived.Test.YtlaafbaheoeclaaZExactBusTrafficPFnExactBusTrafficx5
import Derived.Test.YtlaafbaheoeclaaZExactBusTrafficPFnExactBusTrafficx6
import Derived.Test.YtlaafbaheoeclaaZExactBusTrafficPFnExactBusTrafficx7
import Derived.Test.YtlaafbaheoeclaaZExactBusTrafficPFnExactBusTrafficx8
namespace Go.Proofs.Ytlaafbaheoeclaa.PFnExactBusTraffic
open Go.RowKit Go.Proofs.YtlaafbaheoeclaaW.PrintWords Go.Proofs.YtlaafbaheoeclaaW.PrintLast Go.Proofs.YtlaafbaheoeclaaW.PrintMore
attribute [local go_sem] max2_int min2_int max_two min_two max_three min_three max_four min_four   -- for this text's walks alone
set_option linter.unusedVariables false
set_option linter.unusedSimpArgs false

end Go.Proofs.Ytlaafbaheoeclaa.PFnExactBusTraffic
