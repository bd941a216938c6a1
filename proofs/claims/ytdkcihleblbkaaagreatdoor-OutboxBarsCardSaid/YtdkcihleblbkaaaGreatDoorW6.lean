/- The law's run by the kernel, part W6. -/
import Derived.Test.YtdkcihleblbkaaaGreatDoorK3
namespace Go.Proofs.YtdkcihleblbkaaaGreatDoor.Eng
set_option linter.unusedVariables false
set_option linter.unusedSimpArgs false
set_option linter.unusedSectionVars false
open Go
set_option maxRecDepth 1000000

theorem rd48 : allO (endB (toldS txA 48) (nextS 48)) (runX LB (toldS txA 48).st) = true := by kernel_rfl
theorem ts48 : allO endT (runX LT (toldS txS 48).st) = true := by kernel_rfl
theorem tb48 : allO endT (runX LT (toldS txB 48).st) = true := by kernel_rfl
theorem rd49 : allO (endB (toldS txA 49) (nextS 49)) (runX LB (toldS txA 49).st) = true := by kernel_rfl
theorem ts49 : allO endT (runX LT (toldS txS 49).st) = true := by kernel_rfl
theorem tb49 : allO endT (runX LT (toldS txB 49).st) = true := by kernel_rfl
theorem rd50 : allO (endB (toldS txA 50) (nextS 50)) (runX LB (toldS txA 50).st) = true := by kernel_rfl
theorem ts50 : allO endT (runX LT (toldS txS 50).st) = true := by kernel_rfl
theorem tb50 : allO endT (runX LT (toldS txB 50).st) = true := by kernel_rfl
theorem rd51 : allO (endB (toldS txA 51) (nextS 51)) (runX LB (toldS txA 51).st) = true := by kernel_rfl
theorem ts51 : allO endT (runX LT (toldS txS 51).st) = true := by kernel_rfl
theorem tb51 : allO endT (runX LT (toldS txB 51).st) = true := by kernel_rfl
theorem rd52 : allO (endB (toldS txA 52) (nextS 52)) (runX LB (toldS txA 52).st) = true := by kernel_rfl
theorem ts52 : allO endT (runX LT (toldS txS 52).st) = true := by kernel_rfl
theorem tb52 : allO endT (runX LT (toldS txB 52).st) = true := by kernel_rfl
theorem rd53 : allO (endB (toldS txA 53) (nextS 53)) (runX LB (toldS txA 53).st) = true := by kernel_rfl
theorem ts53 : allO endT (runX LT (toldS txS 53).st) = true := by kernel_rfl
theorem tb53 : allO endT (runX LT (toldS txB 53).st) = true := by kernel_rfl
theorem rd54 : allO (endB (toldS txA 54) (nextS 54)) (runX LB (toldS txA 54).st) = true := by kernel_rfl
theorem ts54 : allO endT (runX LT (toldS txS 54).st) = true := by kernel_rfl
theorem tb54 : allO endT (runX LT (toldS txB 54).st) = true := by kernel_rfl
theorem rd55 : allO (endB (toldS txA 55) (nextS 55)) (runX LB (toldS txA 55).st) = true := by kernel_rfl
theorem ts55 : allO endT (runX LT (toldS txS 55).st) = true := by kernel_rfl
theorem tb55 : allO endT (runX LT (toldS txB 55).st) = true := by kernel_rfl

end Go.Proofs.YtdkcihleblbkaaaGreatDoor.Eng
