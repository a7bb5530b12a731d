-- Laid by a program of this work over the seat's translation.
import Derived.Test.YtgakjpnfbgmjjaaPAx0
namespace Go.Proofs.Ytgakjpnfbgmjjaa.PA
open Go.RowKit Go.Proofs.YtgakjpnfbgmjjaaW.PrintWords Go.Proofs.YtgakjpnfbgmjjaaW.PrintLast Go.Proofs.YtgakjpnfbgmjjaaW.PrintMore
attribute [local go_sem] pr_leq pr_geq pr_gtr max2_int min2_int max_two min_two max_three min_three max_four min_four   -- for this text's walks alone
set_option linter.unusedVariables false
set_option linter.unusedSimpArgs false

-- NOT PRINTED: function 11 (flash_New)

-- NOT PRINTED: function 24 (flash_Device_is)

end Go.Proofs.Ytgakjpnfbgmjjaa.PA
