/- Written by xprint.py, a program of these sessions (over the print of the kit, with leaves typed by hand): one Lean function for each Go function, and the proof that the Go code comes to its answers. -/
import Derived.Test.YtkboplflbokofaaPFrameKnownx0
import Derived.Test.YtkboplflbokofaaPFrameKnownx1
import Derived.Test.YtkboplflbokofaaPFrameKnownx2
import Derived.Test.YtkboplflbokofaaPFrameKnownx3
import Derived.Test.YtkboplflbokofaaPFrameKnownx4
import Derived.Test.YtkboplflbokofaaPFrameKnownx5
namespace Go.Proofs.Ytkboplflbokofaa.PFrameKnown
open Go.RowKit Go.Proofs.YtkboplflbokofaaW.PrintWords Go.Proofs.YtkboplflbokofaaW.PrintLast Go.Proofs.YtkboplflbokofaaW.PrintMore
attribute [local go_sem] max2_int min2_int max_two min_two max_three min_three max_four min_four   -- for this text's walks alone
set_option linter.unusedVariables false
set_option linter.unusedSimpArgs false

end Go.Proofs.Ytkboplflbokofaa.PFrameKnown
