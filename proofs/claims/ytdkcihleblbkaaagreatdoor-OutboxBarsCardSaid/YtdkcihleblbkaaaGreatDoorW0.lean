/- The law's run by the kernel, part W0. -/
import Derived.Test.YtdkcihleblbkaaaGreatDoorK3
namespace Go.Proofs.YtdkcihleblbkaaaGreatDoor.Eng
set_option linter.unusedVariables false
set_option linter.unusedSimpArgs false
set_option linter.unusedSectionVars false
open Go
set_option maxRecDepth 1000000

theorem rd0 : allO (endB (toldS txA 0) (nextS 0)) (runX LB (toldS txA 0).st) = true := by kernel_rfl
theorem ts0 : allO endT (runX LT (toldS txS 0).st) = true := by kernel_rfl
theorem tb0 : allO endT (runX LT (toldS txB 0).st) = true := by kernel_rfl
theorem rd1 : allO (endB (toldS txA 1) (nextS 1)) (runX LB (toldS txA 1).st) = true := by kernel_rfl
theorem ts1 : allO endT (runX LT (toldS txS 1).st) = true := by kernel_rfl
theorem tb1 : allO endT (runX LT (toldS txB 1).st) = true := by kernel_rfl
theorem rd2 : allO (endB (toldS txA 2) (nextS 2)) (runX LB (toldS txA 2).st) = true := by kernel_rfl
theorem ts2 : allO endT (runX LT (toldS txS 2).st) = true := by kernel_rfl
theorem tb2 : allO endT (runX LT (toldS txB 2).st) = true := by kernel_rfl
theorem rd3 : allO (endB (toldS txA 3) (nextS 3)) (runX LB (toldS txA 3).st) = true := by kernel_rfl
theorem ts3 : allO endT (runX LT (toldS txS 3).st) = true := by kernel_rfl
theorem tb3 : allO endT (runX LT (toldS txB 3).st) = true := by kernel_rfl
theorem rd4 : allO (endB (toldS txA 4) (nextS 4)) (runX LB (toldS txA 4).st) = true := by kernel_rfl
theorem ts4 : allO endT (runX LT (toldS txS 4).st) = true := by kernel_rfl
theorem tb4 : allO endT (runX LT (toldS txB 4).st) = true := by kernel_rfl
theorem rd5 : allO (endB (toldS txA 5) (nextS 5)) (runX LB (toldS txA 5).st) = true := by kernel_rfl
theorem ts5 : allO endT (runX LT (toldS txS 5).st) = true := by kernel_rfl
theorem tb5 : allO endT (runX LT (toldS txB 5).st) = true := by kernel_rfl
theorem rd6 : allO (endB (toldS txA 6) (nextS 6)) (runX LB (toldS txA 6).st) = true := by kernel_rfl
theorem ts6 : allO endT (runX LT (toldS txS 6).st) = true := by kernel_rfl
theorem tb6 : allO endT (runX LT (toldS txB 6).st) = true := by kernel_rfl
theorem rd7 : allO (endB (toldS txA 7) (nextS 7)) (runX LB (toldS txA 7).st) = true := by kernel_rfl
theorem ts7 : allO endT (runX LT (toldS txS 7).st) = true := by kernel_rfl
theorem tb7 : allO endT (runX LT (toldS txB 7).st) = true := by kernel_rfl

end Go.Proofs.YtdkcihleblbkaaaGreatDoor.Eng
