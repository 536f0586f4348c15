/- Written by xprint.py, a program of these sessions (over the print of the kit, with leaves typed by hand): one Lean function for each Go function, and the proof that the Go code comes to its answers. -/
import Derived.Test.YtkboplflbokofaaPFrameReadsx0
import Derived.Test.YtkboplflbokofaaPFrameReadsx1
import Derived.Test.YtkboplflbokofaaPFrameReadsx2
import Derived.Test.YtkboplflbokofaaPFrameReadsx3
import Derived.Test.YtkboplflbokofaaPFrameReadsx4
import Derived.Test.YtkboplflbokofaaPFrameReadsx5
import Derived.Test.YtkboplflbokofaaPFrameReadsx6
import Derived.Test.YtkboplflbokofaaPFrameReadsx7
namespace Go.Proofs.Ytkboplflbokofaa.PFrameReads
open Go.RowKit Go.Proofs.YtkboplflbokofaaW.PrintWords Go.Proofs.YtkboplflbokofaaW.PrintLast Go.Proofs.YtkboplflbokofaaW.PrintMore
attribute [local go_sem] max2_int min2_int max_two min_two max_three min_three max_four min_four   -- for this text's walks alone
set_option linter.unusedVariables false
set_option linter.unusedSimpArgs false

end Go.Proofs.Ytkboplflbokofaa.PFrameReads
