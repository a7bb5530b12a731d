-- Laid by a program of this work over the seat's translation.
import Derived.Test.YtgjhhbljbnbjkaaPAx0
import Derived.Test.YtgjhhbljbnbjkaaPAx1
import Derived.Test.YtgjhhbljbnbjkaaPAx2
import Derived.Test.YtgjhhbljbnbjkaaPAx3
import Derived.Test.YtgjhhbljbnbjkaaPAx4
import Derived.Test.YtgjhhbljbnbjkaaPAx5
import Derived.Test.YtgjhhbljbnbjkaaPAx6
import Derived.Test.YtgjhhbljbnbjkaaPAx7
import Derived.Test.YtgjhhbljbnbjkaaPAx8
import Derived.Test.YtgjhhbljbnbjkaaPAx9
import Derived.Test.YtgjhhbljbnbjkaaPAx10
import Derived.Test.YtgjhhbljbnbjkaaPAx11
import Derived.Test.YtgjhhbljbnbjkaaPAx12
import Derived.Test.YtgjhhbljbnbjkaaPAx13
import Derived.Test.YtgjhhbljbnbjkaaPAx14
import Derived.Test.YtgjhhbljbnbjkaaPAx15
import Derived.Test.YtgjhhbljbnbjkaaPAx16
import Derived.Test.YtgjhhbljbnbjkaaPAx17
namespace Go.Proofs.Ytgjhhbljbnbjkaa.PA
open Go.RowKit Go.Proofs.YtgjhhbljbnbjkaaW.PrintWords Go.Proofs.YtgjhhbljbnbjkaaW.PrintLast Go.Proofs.YtgjhhbljbnbjkaaW.PrintMore
attribute [local go_sem] max2_int min2_int max_two min_two max_three min_three max_four min_four   -- for this text's walks alone
set_option linter.unusedVariables false
set_option linter.unusedSimpArgs false

end Go.Proofs.Ytgjhhbljbnbjkaa.PA
