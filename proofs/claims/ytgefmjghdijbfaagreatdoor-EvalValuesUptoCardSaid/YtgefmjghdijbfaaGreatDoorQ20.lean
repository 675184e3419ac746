/- Walks. -/
import Derived.Test.YtgefmjghdijbfaaGreatDoorQ19
import Derived.Test.YtgefmjghdijbfaaGreatDoorQ15
namespace Go.De
open Go Go.Wk Go.Un Go.ChangeShapes Go.WideShapes
set_option linter.unusedSimpArgs false
set_option linter.unusedVariables false
class Msr3 {H : Type} (μ : DataW H → Nat) : Prop extends Msr μ where
  p : ∀ d, 0 < μ d
  l : ∀ {es sp : List (DataW H)}, (es.map μ).sum < μ (.slice es sp)
end Go.De
