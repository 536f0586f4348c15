/- The chapter's examples, both ends: the law QuillKnown, a closed statement: it is walked outright (in the printed text's leaf), nothing pure is left. -/
import Derived.Test.YtclbcmblgbinpaaPQuillKnownx
set_option linter.unusedVariables false
set_option linter.unusedSimpArgs false
namespace Go.Proofs.Ytclbcmblgbinpaa.Pure
open Go.RowKit Go.Proofs.Ytclbcmblgbinpaa.PQuillKnown Go.Proofs.YtclbcmblgbinpaaW.PrintWords Go.Proofs.YtclbcmblgbinpaaW.PrintLast Go.Proofs.YtclbcmblgbinpaaW.PrintMore
theorem QuillKnown : scriptoriumlaw01_QuillKnown.Pure := trivial

end Go.Proofs.Ytclbcmblgbinpaa.Pure
