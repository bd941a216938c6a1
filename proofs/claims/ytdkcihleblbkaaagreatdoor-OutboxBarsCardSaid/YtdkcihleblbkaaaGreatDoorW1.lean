/- The law's run by the kernel, part W1. -/
import Derived.Test.YtdkcihleblbkaaaGreatDoorK3
namespace Go.Proofs.YtdkcihleblbkaaaGreatDoor.Eng
set_option linter.unusedVariables false
set_option linter.unusedSimpArgs false
set_option linter.unusedSectionVars false
open Go
set_option maxRecDepth 1000000

theorem rd8 : allO (endB (toldS txA 8) (nextS 8)) (runX LB (toldS txA 8).st) = true := by kernel_rfl
theorem ts8 : allO endT (runX LT (toldS txS 8).st) = true := by kernel_rfl
theorem tb8 : allO endT (runX LT (toldS txB 8).st) = true := by kernel_rfl
theorem rd9 : allO (endB (toldS txA 9) (nextS 9)) (runX LB (toldS txA 9).st) = true := by kernel_rfl
theorem ts9 : allO endT (runX LT (toldS txS 9).st) = true := by kernel_rfl
theorem tb9 : allO endT (runX LT (toldS txB 9).st) = true := by kernel_rfl
theorem rd10 : allO (endB (toldS txA 10) (nextS 10)) (runX LB (toldS txA 10).st) = true := by kernel_rfl
theorem ts10 : allO endT (runX LT (toldS txS 10).st) = true := by kernel_rfl
theorem tb10 : allO endT (runX LT (toldS txB 10).st) = true := by kernel_rfl
theorem rd11 : allO (endB (toldS txA 11) (nextS 11)) (runX LB (toldS txA 11).st) = true := by kernel_rfl
theorem ts11 : allO endT (runX LT (toldS txS 11).st) = true := by kernel_rfl
theorem tb11 : allO endT (runX LT (toldS txB 11).st) = true := by kernel_rfl
theorem rd12 : allO (endB (toldS txA 12) (nextS 12)) (runX LB (toldS txA 12).st) = true := by kernel_rfl
theorem ts12 : allO endT (runX LT (toldS txS 12).st) = true := by kernel_rfl
theorem tb12 : allO endT (runX LT (toldS txB 12).st) = true := by kernel_rfl
theorem rd13 : allO (endB (toldS txA 13) (nextS 13)) (runX LB (toldS txA 13).st) = true := by kernel_rfl
theorem ts13 : allO endT (runX LT (toldS txS 13).st) = true := by kernel_rfl
theorem tb13 : allO endT (runX LT (toldS txB 13).st) = true := by kernel_rfl
theorem rd14 : allO (endB (toldS txA 14) (nextS 14)) (runX LB (toldS txA 14).st) = true := by kernel_rfl
theorem ts14 : allO endT (runX LT (toldS txS 14).st) = true := by kernel_rfl
theorem tb14 : allO endT (runX LT (toldS txB 14).st) = true := by kernel_rfl
theorem rd15 : allO (endB (toldS txA 15) (nextS 15)) (runX LB (toldS txA 15).st) = true := by kernel_rfl
theorem ts15 : allO endT (runX LT (toldS txS 15).st) = true := by kernel_rfl
theorem tb15 : allO endT (runX LT (toldS txB 15).st) = true := by kernel_rfl

end Go.Proofs.YtdkcihleblbkaaaGreatDoor.Eng
