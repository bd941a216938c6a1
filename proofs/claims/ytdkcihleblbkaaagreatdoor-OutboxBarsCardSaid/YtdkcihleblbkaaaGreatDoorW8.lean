/- The law's run by the kernel, part W8. -/
import Derived.Test.YtdkcihleblbkaaaGreatDoorK3
namespace Go.Proofs.YtdkcihleblbkaaaGreatDoor.Eng
set_option linter.unusedVariables false
set_option linter.unusedSimpArgs false
set_option linter.unusedSectionVars false
open Go
set_option maxRecDepth 1000000

theorem rd64 : allO (endB (toldS txA 64) (nextS 64)) (runX LB (toldS txA 64).st) = true := by kernel_rfl
theorem ts64 : allO endT (runX LT (toldS txS 64).st) = true := by kernel_rfl
theorem tb64 : allO endT (runX LT (toldS txB 64).st) = true := by kernel_rfl
theorem rd65 : allO (endB (toldS txA 65) (nextS 65)) (runX LB (toldS txA 65).st) = true := by kernel_rfl
theorem ts65 : allO endT (runX LT (toldS txS 65).st) = true := by kernel_rfl
theorem tb65 : allO endT (runX LT (toldS txB 65).st) = true := by kernel_rfl

end Go.Proofs.YtdkcihleblbkaaaGreatDoor.Eng
