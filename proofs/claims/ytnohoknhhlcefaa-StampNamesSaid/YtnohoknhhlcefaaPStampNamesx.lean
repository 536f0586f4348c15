/- Written by xprint.py, a program of these sessions (over the print of the kit, with leaves typed by hand): one Lean function for each Go function, and the proof that the Go code comes to its answers. -/
import Derived.Test.YtnohoknhhlcefaaPStampNamesx0
import Derived.Test.YtnohoknhhlcefaaPStampNamesx1
import Derived.Test.YtnohoknhhlcefaaPStampNamesx2
import Derived.Test.YtnohoknhhlcefaaPStampNamesx3
import Derived.Test.YtnohoknhhlcefaaPStampNamesx4
import Derived.Test.YtnohoknhhlcefaaPStampNamesx5
namespace Go.Proofs.Ytnohoknhhlcefaa.PStampNames
open Go.RowKit Go.Proofs.YtnohoknhhlcefaaW.PrintWords Go.Proofs.YtnohoknhhlcefaaW.PrintLast Go.Proofs.YtnohoknhhlcefaaW.PrintMore
attribute [local go_sem] max2_int min2_int max_two min_two max_three min_three max_four min_four   -- for this text's walks alone
set_option linter.unusedVariables false
set_option linter.unusedSimpArgs false

end Go.Proofs.Ytnohoknhhlcefaa.PStampNames
