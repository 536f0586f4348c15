/- Written by xprint.py, a program of these sessions (over the print of the kit, with leaves typed by hand): one Lean function for each Go function, and the proof that the Go code comes to its answers. -/
import Derived.Test.YthhgoiabkgfdfaaPClockAnewx0
import Derived.Test.YthhgoiabkgfdfaaPClockAnewx1
import Derived.Test.YthhgoiabkgfdfaaPClockAnewx2
import Derived.Test.YthhgoiabkgfdfaaPClockAnewx3
import Derived.Test.YthhgoiabkgfdfaaPClockAnewx4
import Derived.Test.YthhgoiabkgfdfaaPClockAnewx5
import Derived.Test.YthhgoiabkgfdfaaPClockAnewx6
namespace Go.Proofs.Ythhgoiabkgfdfaa.PClockAnew
open Go.RowKit Go.Proofs.YthhgoiabkgfdfaaW.PrintWords Go.Proofs.YthhgoiabkgfdfaaW.PrintLast Go.Proofs.YthhgoiabkgfdfaaW.PrintMore
attribute [local go_sem] max2_int min2_int max_two min_two max_three min_three max_four min_four   -- for this text's walks alone
set_option linter.unusedVariables false
set_option linter.unusedSimpArgs false

end Go.Proofs.Ythhgoiabkgfdfaa.PClockAnew
