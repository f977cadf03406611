/- Walks through the code: each function's contract. -/
import Derived.Test.YtabbiihekappeaaDoorWA
set_option linter.unusedVariables false
set_option linter.unusedSimpArgs false
set_option maxRecDepth 8000
namespace Go.Proofs.YtabbiihekappeaaDoor
open Go Go.VL
variable {W0 : World}

/-- The names of a list, each once, behind those that are there. -/
def un (acc : List ByteArray) : List ByteArray → List ByteArray
  | [] => acc
  | x :: l => if 0 ≤ ix x 0 acc then un acc l else un (acc ++ [x]) l
theorem un_drop {acc l : List ByteArray} {n : Nat} (h : n < l.length) : un acc (l.drop n) = if 0 ≤ ix l[n] 0 acc then un acc (l.drop (n + 1)) else un (acc ++ [l[n]]) (l.drop (n + 1)) := by rw [drop_get h, un]
end Go.Proofs.YtabbiihekappeaaDoor
