-- Laid by a program of this work over the seat's translation.
import Derived.Test.YtgjhhbljbnbjkaaDoorPAx0
import Derived.Test.YtgjhhbljbnbjkaaDoorPAx1
import Derived.Test.YtgjhhbljbnbjkaaDoorPAx2
import Derived.Test.YtgjhhbljbnbjkaaDoorPAx3
import Derived.Test.YtgjhhbljbnbjkaaDoorPAx4
import Derived.Test.YtgjhhbljbnbjkaaDoorPAx5
import Derived.Test.YtgjhhbljbnbjkaaDoorPAx6
import Derived.Test.YtgjhhbljbnbjkaaDoorPAx7
import Derived.Test.YtgjhhbljbnbjkaaDoorPAx8
import Derived.Test.YtgjhhbljbnbjkaaDoorPAx9
import Derived.Test.YtgjhhbljbnbjkaaDoorPAx10
import Derived.Test.YtgjhhbljbnbjkaaDoorPAx11
import Derived.Test.YtgjhhbljbnbjkaaDoorPAx12
import Derived.Test.YtgjhhbljbnbjkaaDoorPAx13
import Derived.Test.YtgjhhbljbnbjkaaDoorPAx14
import Derived.Test.YtgjhhbljbnbjkaaDoorPAx15
import Derived.Test.YtgjhhbljbnbjkaaDoorPAx16
namespace Go.Proofs.YtgjhhbljbnbjkaaDoor.PA
open Go.RowKit Go.Proofs.YtgjhhbljbnbjkaaDoorW.PrintWords Go.Proofs.YtgjhhbljbnbjkaaDoorW.PrintLast Go.Proofs.YtgjhhbljbnbjkaaDoorW.PrintMore
attribute [local go_sem] max2_int min2_int max_two min_two max_three min_three max_four min_four   -- for this text's walks alone
set_option linter.unusedVariables false
set_option linter.unusedSimpArgs false

end Go.Proofs.YtgjhhbljbnbjkaaDoor.PA
