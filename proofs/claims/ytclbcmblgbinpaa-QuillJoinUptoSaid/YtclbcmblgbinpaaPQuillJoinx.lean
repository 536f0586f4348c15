/- Written by xprint.py, a program of these sessions (over the print of the kit, with leaves typed by hand): one Lean function for each Go function, and the proof that the Go code comes to its answers. -/
import Derived.Test.YtclbcmblgbinpaaPQuillJoinx0
import Derived.Test.YtclbcmblgbinpaaPQuillJoinx1
import Derived.Test.YtclbcmblgbinpaaPQuillJoinx2
import Derived.Test.YtclbcmblgbinpaaPQuillJoinx3
namespace Go.Proofs.Ytclbcmblgbinpaa.PQuillJoin
open Go.RowKit Go.Proofs.YtclbcmblgbinpaaW.PrintWords Go.Proofs.YtclbcmblgbinpaaW.PrintLast Go.Proofs.YtclbcmblgbinpaaW.PrintMore
attribute [local go_sem] max2_int min2_int max_two min_two max_three min_three max_four min_four   -- for this text's walks alone
set_option linter.unusedVariables false
set_option linter.unusedSimpArgs false

end Go.Proofs.Ytclbcmblgbinpaa.PQuillJoin
