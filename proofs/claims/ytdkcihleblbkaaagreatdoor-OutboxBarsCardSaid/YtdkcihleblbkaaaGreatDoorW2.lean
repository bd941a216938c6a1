/- The law's run by the kernel, part W2. -/
import Derived.Test.YtdkcihleblbkaaaGreatDoorK3
namespace Go.Proofs.YtdkcihleblbkaaaGreatDoor.Eng
set_option linter.unusedVariables false
set_option linter.unusedSimpArgs false
set_option linter.unusedSectionVars false
open Go
set_option maxRecDepth 1000000

theorem rd16 : allO (endB (toldS txA 16) (nextS 16)) (runX LB (toldS txA 16).st) = true := by kernel_rfl
theorem ts16 : allO endT (runX LT (toldS txS 16).st) = true := by kernel_rfl
theorem tb16 : allO endT (runX LT (toldS txB 16).st) = true := by kernel_rfl
theorem rd17 : allO (endB (toldS txA 17) (nextS 17)) (runX LB (toldS txA 17).st) = true := by kernel_rfl
theorem ts17 : allO endT (runX LT (toldS txS 17).st) = true := by kernel_rfl
theorem tb17 : allO endT (runX LT (toldS txB 17).st) = true := by kernel_rfl
theorem rd18 : allO (endB (toldS txA 18) (nextS 18)) (runX LB (toldS txA 18).st) = true := by kernel_rfl
theorem ts18 : allO endT (runX LT (toldS txS 18).st) = true := by kernel_rfl
theorem tb18 : allO endT (runX LT (toldS txB 18).st) = true := by kernel_rfl
theorem rd19 : allO (endB (toldS txA 19) (nextS 19)) (runX LB (toldS txA 19).st) = true := by kernel_rfl
theorem ts19 : allO endT (runX LT (toldS txS 19).st) = true := by kernel_rfl
theorem tb19 : allO endT (runX LT (toldS txB 19).st) = true := by kernel_rfl
theorem rd20 : allO (endB (toldS txA 20) (nextS 20)) (runX LB (toldS txA 20).st) = true := by kernel_rfl
theorem ts20 : allO endT (runX LT (toldS txS 20).st) = true := by kernel_rfl
theorem tb20 : allO endT (runX LT (toldS txB 20).st) = true := by kernel_rfl
theorem rd21 : allO (endB (toldS txA 21) (nextS 21)) (runX LB (toldS txA 21).st) = true := by kernel_rfl
theorem ts21 : allO endT (runX LT (toldS txS 21).st) = true := by kernel_rfl
theorem tb21 : allO endT (runX LT (toldS txB 21).st) = true := by kernel_rfl
theorem rd22 : allO (endB (toldS txA 22) (nextS 22)) (runX LB (toldS txA 22).st) = true := by kernel_rfl
theorem ts22 : allO endT (runX LT (toldS txS 22).st) = true := by kernel_rfl
theorem tb22 : allO endT (runX LT (toldS txB 22).st) = true := by kernel_rfl
theorem rd23 : allO (endB (toldS txA 23) (nextS 23)) (runX LB (toldS txA 23).st) = true := by kernel_rfl
theorem ts23 : allO endT (runX LT (toldS txS 23).st) = true := by kernel_rfl
theorem tb23 : allO endT (runX LT (toldS txB 23).st) = true := by kernel_rfl

end Go.Proofs.YtdkcihleblbkaaaGreatDoor.Eng
