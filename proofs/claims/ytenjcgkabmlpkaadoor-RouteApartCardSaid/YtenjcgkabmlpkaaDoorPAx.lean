-- Laid by a program of this work over the seat's translation.
import Derived.Test.YtenjcgkabmlpkaaDoorPAx0
import Derived.Test.YtenjcgkabmlpkaaDoorPAx1
import Derived.Test.YtenjcgkabmlpkaaDoorPAx2
import Derived.Test.YtenjcgkabmlpkaaDoorPAx3
import Derived.Test.YtenjcgkabmlpkaaDoorPAx4
import Derived.Test.YtenjcgkabmlpkaaDoorPAx5
import Derived.Test.YtenjcgkabmlpkaaDoorPAx6
import Derived.Test.YtenjcgkabmlpkaaDoorPAx7
import Derived.Test.YtenjcgkabmlpkaaDoorPAx8
import Derived.Test.YtenjcgkabmlpkaaDoorPAx9
import Derived.Test.YtenjcgkabmlpkaaDoorPAx10
import Derived.Test.YtenjcgkabmlpkaaDoorPAx11
import Derived.Test.YtenjcgkabmlpkaaDoorPAx12
import Derived.Test.YtenjcgkabmlpkaaDoorPAx13
import Derived.Test.YtenjcgkabmlpkaaDoorPAx14
import Derived.Test.YtenjcgkabmlpkaaDoorPAx15
import Derived.Test.YtenjcgkabmlpkaaDoorPAx16
import Derived.Test.YtenjcgkabmlpkaaDoorPAx17
import Derived.Test.YtenjcgkabmlpkaaDoorPAx18
import Derived.Test.YtenjcgkabmlpkaaDoorPAx19
import Derived.Test.YtenjcgkabmlpkaaDoorPAx20
import Derived.Test.YtenjcgkabmlpkaaDoorPAx21
namespace Go.Proofs.YtenjcgkabmlpkaaDoor.PA
open Go.RowKit Go.Proofs.YtenjcgkabmlpkaaDoorW.PrintWords Go.Proofs.YtenjcgkabmlpkaaDoorW.PrintLast Go.Proofs.YtenjcgkabmlpkaaDoorW.PrintMore
attribute [local go_sem] max2_int min2_int max_two min_two max_three min_three max_four min_four   -- for this text's walks alone
set_option linter.unusedVariables false
set_option linter.unusedSimpArgs false

end Go.Proofs.YtenjcgkabmlpkaaDoor.PA
