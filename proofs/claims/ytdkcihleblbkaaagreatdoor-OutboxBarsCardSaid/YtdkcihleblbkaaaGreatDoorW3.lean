/- The law's run by the kernel, part W3. -/
import Derived.Test.YtdkcihleblbkaaaGreatDoorK3
namespace Go.Proofs.YtdkcihleblbkaaaGreatDoor.Eng
set_option linter.unusedVariables false
set_option linter.unusedSimpArgs false
set_option linter.unusedSectionVars false
open Go
set_option maxRecDepth 1000000

theorem rd24 : allO (endB (toldS txA 24) (nextS 24)) (runX LB (toldS txA 24).st) = true := by kernel_rfl
theorem ts24 : allO endT (runX LT (toldS txS 24).st) = true := by kernel_rfl
theorem tb24 : allO endT (runX LT (toldS txB 24).st) = true := by kernel_rfl
theorem rd25 : allO (endB (toldS txA 25) (nextS 25)) (runX LB (toldS txA 25).st) = true := by kernel_rfl
theorem ts25 : allO endT (runX LT (toldS txS 25).st) = true := by kernel_rfl
theorem tb25 : allO endT (runX LT (toldS txB 25).st) = true := by kernel_rfl
theorem rd26 : allO (endB (toldS txA 26) (nextS 26)) (runX LB (toldS txA 26).st) = true := by kernel_rfl
theorem ts26 : allO endT (runX LT (toldS txS 26).st) = true := by kernel_rfl
theorem tb26 : allO endT (runX LT (toldS txB 26).st) = true := by kernel_rfl
theorem rd27 : allO (endB (toldS txA 27) (nextS 27)) (runX LB (toldS txA 27).st) = true := by kernel_rfl
theorem ts27 : allO endT (runX LT (toldS txS 27).st) = true := by kernel_rfl
theorem tb27 : allO endT (runX LT (toldS txB 27).st) = true := by kernel_rfl
theorem rd28 : allO (endB (toldS txA 28) (nextS 28)) (runX LB (toldS txA 28).st) = true := by kernel_rfl
theorem ts28 : allO endT (runX LT (toldS txS 28).st) = true := by kernel_rfl
theorem tb28 : allO endT (runX LT (toldS txB 28).st) = true := by kernel_rfl
theorem rd29 : allO (endB (toldS txA 29) (nextS 29)) (runX LB (toldS txA 29).st) = true := by kernel_rfl
theorem ts29 : allO endT (runX LT (toldS txS 29).st) = true := by kernel_rfl
theorem tb29 : allO endT (runX LT (toldS txB 29).st) = true := by kernel_rfl
theorem rd30 : allO (endB (toldS txA 30) (nextS 30)) (runX LB (toldS txA 30).st) = true := by kernel_rfl
theorem ts30 : allO endT (runX LT (toldS txS 30).st) = true := by kernel_rfl
theorem tb30 : allO endT (runX LT (toldS txB 30).st) = true := by kernel_rfl
theorem rd31 : allO (endB (toldS txA 31) (nextS 31)) (runX LB (toldS txA 31).st) = true := by kernel_rfl
theorem ts31 : allO endT (runX LT (toldS txS 31).st) = true := by kernel_rfl
theorem tb31 : allO endT (runX LT (toldS txB 31).st) = true := by kernel_rfl

end Go.Proofs.YtdkcihleblbkaaaGreatDoor.Eng
