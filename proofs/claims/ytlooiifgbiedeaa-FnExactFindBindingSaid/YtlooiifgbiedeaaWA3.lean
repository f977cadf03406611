/- Walks through the code: each function's contract. -/
import Derived.Test.YtlooiifgbiedeaaWA2
import Derived.Test.YtlooiifgbiedeaaWX
import Derived.Test.YtlooiifgbiedeaaWJ
set_option linter.unusedVariables false
set_option linter.unusedSimpArgs false
set_option maxRecDepth 8000
namespace Go.Proofs.Ytlooiifgbiedeaa
open Go Go.VL

theorem Subs_agg_u (σ : List Ob) (bor : List Nat) (c : List T) : VL.Sub ((V.agg (c.map V.t)).loc σ [] bor) (.agg (c.map V.t)) := by
  rw [V.loc, V.pures_loc _ _ _ _ (V.pures_t c)]; exact .refl _
end Go.Proofs.Ytlooiifgbiedeaa
