/- The law's run by the kernel, part W7. -/
import Derived.Test.YtdkcihleblbkaaaGreatDoorK3
namespace Go.Proofs.YtdkcihleblbkaaaGreatDoor.Eng
set_option linter.unusedVariables false
set_option linter.unusedSimpArgs false
set_option linter.unusedSectionVars false
open Go
set_option maxRecDepth 1000000

theorem rd56 : allO (endB (toldS txA 56) (nextS 56)) (runX LB (toldS txA 56).st) = true := by kernel_rfl
theorem ts56 : allO endT (runX LT (toldS txS 56).st) = true := by kernel_rfl
theorem tb56 : allO endT (runX LT (toldS txB 56).st) = true := by kernel_rfl
theorem rd57 : allO (endB (toldS txA 57) (nextS 57)) (runX LB (toldS txA 57).st) = true := by kernel_rfl
theorem ts57 : allO endT (runX LT (toldS txS 57).st) = true := by kernel_rfl
theorem tb57 : allO endT (runX LT (toldS txB 57).st) = true := by kernel_rfl
theorem rd58 : allO (endB (toldS txA 58) (nextS 58)) (runX LB (toldS txA 58).st) = true := by kernel_rfl
theorem ts58 : allO endT (runX LT (toldS txS 58).st) = true := by kernel_rfl
theorem tb58 : allO endT (runX LT (toldS txB 58).st) = true := by kernel_rfl
theorem rd59 : allO (endB (toldS txA 59) (nextS 59)) (runX LB (toldS txA 59).st) = true := by kernel_rfl
theorem ts59 : allO endT (runX LT (toldS txS 59).st) = true := by kernel_rfl
theorem tb59 : allO endT (runX LT (toldS txB 59).st) = true := by kernel_rfl
theorem rd60 : allO (endB (toldS txA 60) (nextS 60)) (runX LB (toldS txA 60).st) = true := by kernel_rfl
theorem ts60 : allO endT (runX LT (toldS txS 60).st) = true := by kernel_rfl
theorem tb60 : allO endT (runX LT (toldS txB 60).st) = true := by kernel_rfl
theorem rd61 : allO (endB (toldS txA 61) (nextS 61)) (runX LB (toldS txA 61).st) = true := by kernel_rfl
theorem ts61 : allO endT (runX LT (toldS txS 61).st) = true := by kernel_rfl
theorem tb61 : allO endT (runX LT (toldS txB 61).st) = true := by kernel_rfl
theorem rd62 : allO (endB (toldS txA 62) (nextS 62)) (runX LB (toldS txA 62).st) = true := by kernel_rfl
theorem ts62 : allO endT (runX LT (toldS txS 62).st) = true := by kernel_rfl
theorem tb62 : allO endT (runX LT (toldS txB 62).st) = true := by kernel_rfl
theorem rd63 : allO (endB (toldS txA 63) (nextS 63)) (runX LB (toldS txA 63).st) = true := by kernel_rfl
theorem ts63 : allO endT (runX LT (toldS txS 63).st) = true := by kernel_rfl
theorem tb63 : allO endT (runX LT (toldS txB 63).st) = true := by kernel_rfl

end Go.Proofs.YtdkcihleblbkaaaGreatDoor.Eng
