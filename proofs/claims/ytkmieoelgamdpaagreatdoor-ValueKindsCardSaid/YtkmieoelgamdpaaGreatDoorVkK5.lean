/-
  The first loops of ValueKinds, round 5; no condition.
-/
import Derived.Test.YtkmieoelgamdpaaGreatDoorVkH
set_option linter.deprecated false
set_option linter.unusedVariables false
set_option linter.unusedSimpArgs false

/- ValueKinds: the first loops: round 5. -/
namespace Go.Sx.Vk
open Go Go.Proofs
set_option maxRecDepth 1000000
theorem steps5_0 : ((List.range' 0 7).all (stepI 5)) = true := by kernel_rfl
theorem steps5_1 : ((List.range' 7 6).all (stepI 5)) = true := by kernel_rfl
theorem steps5_2 : ((List.range' 13 6).all (stepI 5)) = true := by kernel_rfl
end Go.Sx.Vk
