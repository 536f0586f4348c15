-- written by xprint.py, a program of this session's, over the kit's print; Lean checks it
import Derived.Test.YtfmnkghcbhajaaaPCrcXorx0
import Derived.Test.YtfmnkghcbhajaaaPCrcXorx1
import Derived.Test.YtfmnkghcbhajaaaPCrcXorx2
namespace Go.Proofs.Ytfmnkghcbhajaaa.PCrcXor
open Go.RowKit Go.Proofs.YtfmnkghcbhajaaaW.PrintWords Go.Proofs.YtfmnkghcbhajaaaW.PrintLast Go.Proofs.YtfmnkghcbhajaaaW.PrintMore
attribute [local go_sem] max2_int min2_int max_two min_two max_three min_three max_four min_four   -- for this text's walks alone
set_option linter.unusedVariables false
set_option linter.unusedSimpArgs false

end Go.Proofs.Ytfmnkghcbhajaaa.PCrcXor
