/- The chapter's numbers and examples, both ends: the law StampNames, its pure statement: reckoned by the kernel. -/
import Derived.Test.YtnohoknhhlcefaaPStampNamesx
set_option linter.unusedVariables false
set_option linter.unusedSimpArgs false
namespace Go.Proofs.Ytnohoknhhlcefaa.Pure
open Go.RowKit Go.Proofs.Ytnohoknhhlcefaa.PStampNames Go.Proofs.YtnohoknhhlcefaaW.PrintWords Go.Proofs.YtnohoknhhlcefaaW.PrintLast Go.Proofs.YtnohoknhhlcefaaW.PrintMore
theorem StampNames : scriptoriumlaw05_StampNames.Pure := ⟨1000, by kernel_rfl⟩

end Go.Proofs.Ytnohoknhhlcefaa.Pure
