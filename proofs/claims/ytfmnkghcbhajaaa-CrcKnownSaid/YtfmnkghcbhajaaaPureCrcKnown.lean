/- The chapter's examples, and others: the law CrcKnown, a closed statement: it is walked outright (in the printed text's leaf), nothing pure is left. -/
import Derived.Test.YtfmnkghcbhajaaaPCrcKnownx
set_option linter.unusedVariables false
set_option linter.unusedSimpArgs false
namespace Go.Proofs.Ytfmnkghcbhajaaa.Pure
open Go.RowKit Go.Proofs.Ytfmnkghcbhajaaa.PCrcKnown Go.Proofs.YtfmnkghcbhajaaaW.PrintWords Go.Proofs.YtfmnkghcbhajaaaW.PrintLast Go.Proofs.YtfmnkghcbhajaaaW.PrintMore
theorem CrcKnown : scriptoriumlaw03_CrcKnown.Pure := trivial

end Go.Proofs.Ytfmnkghcbhajaaa.Pure
