/- Walks through the code: each function's contract. -/
import Derived.Test.YtlnfbkalpdicmaaWR
set_option linter.unusedVariables false
set_option linter.unusedSimpArgs false
set_option maxRecDepth 8000
namespace Go.Proofs.Ytlnfbkalpdicmaa
open Go Go.VL


end Go.Proofs.Ytlnfbkalpdicmaa
