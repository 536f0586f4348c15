/- Written by xprint.py, a program of these sessions (over the print of the kit, with leaves typed by hand): one Lean function for each Go function, and the proof that the Go code comes to its answers. -/
import Derived.Test.YtnohoknhhlcefaaPStampNearx0
import Derived.Test.YtnohoknhhlcefaaPStampNearx1
import Derived.Test.YtnohoknhhlcefaaPStampNearx2
import Derived.Test.YtnohoknhhlcefaaPStampNearx3
import Derived.Test.YtnohoknhhlcefaaPStampNearx4
namespace Go.Proofs.Ytnohoknhhlcefaa.PStampNear
open Go.RowKit Go.Proofs.YtnohoknhhlcefaaW.PrintWords Go.Proofs.YtnohoknhhlcefaaW.PrintLast Go.Proofs.YtnohoknhhlcefaaW.PrintMore
attribute [local go_sem] max2_int min2_int max_two min_two max_three min_three max_four min_four   -- for this text's walks alone
set_option linter.unusedVariables false
set_option linter.unusedSimpArgs false

end Go.Proofs.Ytnohoknhhlcefaa.PStampNear
