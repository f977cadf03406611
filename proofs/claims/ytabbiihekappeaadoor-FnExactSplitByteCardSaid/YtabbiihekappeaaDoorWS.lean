/- Walks through the code: each function's contract. -/
import Derived.Test.YtabbiihekappeaaDoorWR
set_option linter.unusedVariables false
set_option linter.unusedSimpArgs false
set_option maxRecDepth 8000
namespace Go.Proofs.YtabbiihekappeaaDoor
open Go Go.VL
variable {W0 : World}


end Go.Proofs.YtabbiihekappeaaDoor
