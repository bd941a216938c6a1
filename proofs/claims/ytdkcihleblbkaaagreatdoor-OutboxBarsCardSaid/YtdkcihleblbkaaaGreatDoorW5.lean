/- The law's run by the kernel, part W5. -/
import Derived.Test.YtdkcihleblbkaaaGreatDoorK3
namespace Go.Proofs.YtdkcihleblbkaaaGreatDoor.Eng
set_option linter.unusedVariables false
set_option linter.unusedSimpArgs false
set_option linter.unusedSectionVars false
open Go
set_option maxRecDepth 1000000

theorem rd40 : allO (endB (toldS txA 40) (nextS 40)) (runX LB (toldS txA 40).st) = true := by kernel_rfl
theorem ts40 : allO endT (runX LT (toldS txS 40).st) = true := by kernel_rfl
theorem tb40 : allO endT (runX LT (toldS txB 40).st) = true := by kernel_rfl
theorem rd41 : allO (endB (toldS txA 41) (nextS 41)) (runX LB (toldS txA 41).st) = true := by kernel_rfl
theorem ts41 : allO endT (runX LT (toldS txS 41).st) = true := by kernel_rfl
theorem tb41 : allO endT (runX LT (toldS txB 41).st) = true := by kernel_rfl
theorem rd42 : allO (endB (toldS txA 42) (nextS 42)) (runX LB (toldS txA 42).st) = true := by kernel_rfl
theorem ts42 : allO endT (runX LT (toldS txS 42).st) = true := by kernel_rfl
theorem tb42 : allO endT (runX LT (toldS txB 42).st) = true := by kernel_rfl
theorem rd43 : allO (endB (toldS txA 43) (nextS 43)) (runX LB (toldS txA 43).st) = true := by kernel_rfl
theorem ts43 : allO endT (runX LT (toldS txS 43).st) = true := by kernel_rfl
theorem tb43 : allO endT (runX LT (toldS txB 43).st) = true := by kernel_rfl
theorem rd44 : allO (endB (toldS txA 44) (nextS 44)) (runX LB (toldS txA 44).st) = true := by kernel_rfl
theorem ts44 : allO endT (runX LT (toldS txS 44).st) = true := by kernel_rfl
theorem tb44 : allO endT (runX LT (toldS txB 44).st) = true := by kernel_rfl
theorem rd45 : allO (endB (toldS txA 45) (nextS 45)) (runX LB (toldS txA 45).st) = true := by kernel_rfl
theorem ts45 : allO endT (runX LT (toldS txS 45).st) = true := by kernel_rfl
theorem tb45 : allO endT (runX LT (toldS txB 45).st) = true := by kernel_rfl
theorem rd46 : allO (endB (toldS txA 46) (nextS 46)) (runX LB (toldS txA 46).st) = true := by kernel_rfl
theorem ts46 : allO endT (runX LT (toldS txS 46).st) = true := by kernel_rfl
theorem tb46 : allO endT (runX LT (toldS txB 46).st) = true := by kernel_rfl
theorem rd47 : allO (endB (toldS txA 47) (nextS 47)) (runX LB (toldS txA 47).st) = true := by kernel_rfl
theorem ts47 : allO endT (runX LT (toldS txS 47).st) = true := by kernel_rfl
theorem tb47 : allO endT (runX LT (toldS txB 47).st) = true := by kernel_rfl

end Go.Proofs.YtdkcihleblbkaaaGreatDoor.Eng
