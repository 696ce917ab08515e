-- Printed by this session's own program (wip/tools/xprint.py) over the kit's print; not trusted: Lean checks it.
import Derived.Test.YtpndbaomhcehdaaZLruIncludedPFnLruIncludedx0
import Derived.Test.YtpndbaomhcehdaaZLruIncludedPFnLruIncludedx1
import Derived.Test.YtpndbaomhcehdaaZLruIncludedPFnLruIncludedx2
import Derived.Test.YtpndbaomhcehdaaZLruIncludedPFnLruIncludedx3
import Derived.Test.YtpndbaomhcehdaaZLruIncludedPFnLruIncludedx4
import Derived.Test.YtpndbaomhcehdaaZLruIncludedPFnLruIncludedx5
import Derived.Test.YtpndbaomhcehdaaZLruIncludedPFnLruIncludedx6
namespace Go.Proofs.Ytpndbaomhcehdaa.PFnLruIncluded
open Go.RowKit Go.Proofs.YtpndbaomhcehdaaW.PrintWords Go.Proofs.YtpndbaomhcehdaaW.PrintLast Go.Proofs.YtpndbaomhcehdaaW.PrintMore
attribute [local go_sem] max2_int min2_int max_two min_two max_three min_three max_four min_four   -- for this text's walks alone
set_option linter.unusedVariables false
set_option linter.unusedSimpArgs false

end Go.Proofs.Ytpndbaomhcehdaa.PFnLruIncluded
