/-
  The first loops of ValueKinds, round 8; no condition.
-/
import Derived.Test.YtkmieoelgamdpaaGreatDoorVkH
set_option linter.deprecated false
set_option linter.unusedVariables false
set_option linter.unusedSimpArgs false

/- ValueKinds: the first loops: round 8. -/
namespace Go.Sx.Vk
open Go Go.Proofs
set_option maxRecDepth 1000000
theorem steps8_0 : ((List.range' 0 7).all (stepI 8)) = true := by kernel_rfl
theorem steps8_1 : ((List.range' 7 6).all (stepI 8)) = true := by kernel_rfl
theorem steps8_2 : ((List.range' 13 6).all (stepI 8)) = true := by kernel_rfl
end Go.Sx.Vk
