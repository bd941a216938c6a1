/- The law's run by the kernel, part W4. -/
import Derived.Test.YtdkcihleblbkaaaGreatDoorK3
namespace Go.Proofs.YtdkcihleblbkaaaGreatDoor.Eng
set_option linter.unusedVariables false
set_option linter.unusedSimpArgs false
set_option linter.unusedSectionVars false
open Go
set_option maxRecDepth 1000000

theorem rd32 : allO (endB (toldS txA 32) (nextS 32)) (runX LB (toldS txA 32).st) = true := by kernel_rfl
theorem ts32 : allO endT (runX LT (toldS txS 32).st) = true := by kernel_rfl
theorem tb32 : allO endT (runX LT (toldS txB 32).st) = true := by kernel_rfl
theorem rd33 : allO (endB (toldS txA 33) (nextS 33)) (runX LB (toldS txA 33).st) = true := by kernel_rfl
theorem ts33 : allO endT (runX LT (toldS txS 33).st) = true := by kernel_rfl
theorem tb33 : allO endT (runX LT (toldS txB 33).st) = true := by kernel_rfl
theorem rd34 : allO (endB (toldS txA 34) (nextS 34)) (runX LB (toldS txA 34).st) = true := by kernel_rfl
theorem ts34 : allO endT (runX LT (toldS txS 34).st) = true := by kernel_rfl
theorem tb34 : allO endT (runX LT (toldS txB 34).st) = true := by kernel_rfl
theorem rd35 : allO (endB (toldS txA 35) (nextS 35)) (runX LB (toldS txA 35).st) = true := by kernel_rfl
theorem ts35 : allO endT (runX LT (toldS txS 35).st) = true := by kernel_rfl
theorem tb35 : allO endT (runX LT (toldS txB 35).st) = true := by kernel_rfl
theorem rd36 : allO (endB (toldS txA 36) (nextS 36)) (runX LB (toldS txA 36).st) = true := by kernel_rfl
theorem ts36 : allO endT (runX LT (toldS txS 36).st) = true := by kernel_rfl
theorem tb36 : allO endT (runX LT (toldS txB 36).st) = true := by kernel_rfl
theorem rd37 : allO (endB (toldS txA 37) (nextS 37)) (runX LB (toldS txA 37).st) = true := by kernel_rfl
theorem ts37 : allO endT (runX LT (toldS txS 37).st) = true := by kernel_rfl
theorem tb37 : allO endT (runX LT (toldS txB 37).st) = true := by kernel_rfl
theorem rd38 : allO (endB (toldS txA 38) (nextS 38)) (runX LB (toldS txA 38).st) = true := by kernel_rfl
theorem ts38 : allO endT (runX LT (toldS txS 38).st) = true := by kernel_rfl
theorem tb38 : allO endT (runX LT (toldS txB 38).st) = true := by kernel_rfl
theorem rd39 : allO (endB (toldS txA 39) (nextS 39)) (runX LB (toldS txA 39).st) = true := by kernel_rfl
theorem ts39 : allO endT (runX LT (toldS txS 39).st) = true := by kernel_rfl
theorem tb39 : allO endT (runX LT (toldS txB 39).st) = true := by kernel_rfl

end Go.Proofs.YtdkcihleblbkaaaGreatDoor.Eng
