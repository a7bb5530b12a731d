-- Laid by a program of this work over the seat's translation.
import Derived.Test.YtgakjpnfbgmjjaaPAx0
import Derived.Test.YtgakjpnfbgmjjaaPAx1
import Derived.Test.YtgakjpnfbgmjjaaPAx2
import Derived.Test.YtgakjpnfbgmjjaaPAx3
import Derived.Test.YtgakjpnfbgmjjaaPAx4
import Derived.Test.YtgakjpnfbgmjjaaPAx5
import Derived.Test.YtgakjpnfbgmjjaaPAx6
namespace Go.Proofs.Ytgakjpnfbgmjjaa.PA
open Go.RowKit Go.Proofs.YtgakjpnfbgmjjaaW.PrintWords Go.Proofs.YtgakjpnfbgmjjaaW.PrintLast Go.Proofs.YtgakjpnfbgmjjaaW.PrintMore
attribute [local go_sem] pr_leq pr_geq pr_gtr max2_int min2_int max_two min_two max_three min_three max_four min_four   -- for this text's walks alone
set_option linter.unusedVariables false
set_option linter.unusedSimpArgs false

end Go.Proofs.Ytgakjpnfbgmjjaa.PA
