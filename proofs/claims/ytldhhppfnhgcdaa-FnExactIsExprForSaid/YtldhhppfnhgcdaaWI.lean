/- Walks through the code: each function's contract. -/
import Derived.Test.YtldhhppfnhgcdaaWD
set_option linter.unusedVariables false
set_option linter.unusedSimpArgs false
set_option maxRecDepth 8000
namespace Go.Proofs.Ytldhhppfnhgcdaa
open Go Go.VL


end Go.Proofs.Ytldhhppfnhgcdaa
