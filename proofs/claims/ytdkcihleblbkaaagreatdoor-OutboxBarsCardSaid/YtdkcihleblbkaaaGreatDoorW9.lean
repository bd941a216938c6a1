/- The law's run by the kernel, part W9. -/
import Derived.Test.YtdkcihleblbkaaaGreatDoorK3
namespace Go.Proofs.YtdkcihleblbkaaaGreatDoor.Eng
set_option linter.unusedVariables false
set_option linter.unusedSimpArgs false
set_option linter.unusedSectionVars false
open Go
set_option maxRecDepth 1000000

theorem p0D : allO (endN (scnA toD txA)) (runX (sq1 cf3.body) (entrySt (args0 toD txA) 168 st0)) = true := by kernel_rfl
theorem p1D : allO (endN (scnA toD txA)) (runX (sq1 R1) (scnA toD txA).st) = true := by kernel_rfl
theorem p2D : allO (endN (scnA toD txA)) (runX (sq1 R2) (scnA toD txA).st) = true := by kernel_rfl
theorem p3D : allO (endN (scnB toD txA)) (runX (sq1 R3) (scnA toD txA).st) = true := by kernel_rfl
theorem p4D : allO (endN (scnB toD txA)) (runX (sq1 R4) (scnB toD txA).st) = true := by kernel_rfl
theorem p5D : allO (endN (scnC toD txA)) (runX (sq1 R5) (scnB toD txA).st) = true := by kernel_rfl
theorem p6D : allO (endN (toldS txA 0)) (runX (sq1 LS) (scnC toD txA).st) = true := by kernel_rfl
theorem p0N : allO (endN (scnA toN txA)) (runX (sq1 cf3.body) (entrySt (args0 toN txA) 168 st0)) = true := by kernel_rfl
theorem p1N : allO (endN (scnA toN txA)) (runX (sq1 R1) (scnA toN txA).st) = true := by kernel_rfl
theorem p2N : allO (endN (scnA toN txA)) (runX (sq1 R2) (scnA toN txA).st) = true := by kernel_rfl
theorem p3N : allO (endN (scnB toN txA)) (runX (sq1 R3) (scnA toN txA).st) = true := by kernel_rfl
theorem p4N : allO (endN (scnB toN txA)) (runX (sq1 R4) (scnB toN txA).st) = true := by kernel_rfl
theorem p5N : allO (endN (scnC toN txA)) (runX (sq1 R5) (scnB toN txA).st) = true := by kernel_rfl
theorem p6N : allO (endN (toldN toN (intN 0))) (runX (sq1 LS) (scnC toN txA).st) = true := by kernel_rfl
theorem rdN : upTo (fun k => allO (endB (toldN toN (intN k)) (nextN toN k)) (runX LB (toldN toN (intN k)).st)) 66 = true := by kernel_rfl
theorem tlN : allO endT (runX LT (toldN toN .any).st) = true := by kernel_rfl
theorem p0P : allO (endN (scnA toP txA)) (runX (sq1 cf3.body) (entrySt (args0 toP txA) 168 st0)) = true := by kernel_rfl
theorem p1P : allO (endN (scnA toP txA)) (runX (sq1 R1) (scnA toP txA).st) = true := by kernel_rfl
theorem p2P : allO (endN (scnA toP txA)) (runX (sq1 R2) (scnA toP txA).st) = true := by kernel_rfl
theorem p3P : allO (endN (scnB toP txA)) (runX (sq1 R3) (scnA toP txA).st) = true := by kernel_rfl
theorem p4P : allO (endN (scnB toP txA)) (runX (sq1 R4) (scnB toP txA).st) = true := by kernel_rfl
theorem p5P : allO (endN (scnC toP txA)) (runX (sq1 R5) (scnB toP txA).st) = true := by kernel_rfl
theorem p6P : allO (endN (toldN toP (intN 0))) (runX (sq1 LS) (scnC toP txA).st) = true := by kernel_rfl
theorem rdP : upTo (fun k => allO (endB (toldN toP (intN k)) (nextN toP k)) (runX LB (toldN toP (intN k)).st)) 66 = true := by kernel_rfl
theorem tlP : allO endT (runX LT (toldN toP .any).st) = true := by kernel_rfl
theorem p0L : allO (endN (scnA now0 txL)) (runX (sq1 cf3.body) (entrySt (args0 now0 txL) 168 st0)) = true := by kernel_rfl
theorem p1L : allO (endN (scnA now0 txL)) (runX (sq1 R1) (scnA now0 txL).st) = true := by kernel_rfl
theorem p2L : allO endT (runX (sq1 R2) (scnA now0 txL).st) = true := by kernel_rfl

end Go.Proofs.YtdkcihleblbkaaaGreatDoor.Eng
