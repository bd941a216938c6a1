/-
  PROVED HERE: the closed facts of OutboxBars's row, the first eleven, each by itself (for the kernel's memory).
-/
import Derived.Test.YtdkcihleblbkaaaGreatDoorRows
import Derived.Conc.Holds
import Derived.ProofKit
import Derived.SevenTiedAt
namespace Go.Proofs.YtdkcihleblbkaaaGreatDoor

theorem jf0 : (Rows.outboxBarsRow.wf (OpenSpec.ofChange Rows.outboxBarsSpec)) = true := by kernel_rfl
theorem jf1 : (laidOutB Tryz.prog) = true := by kernel_rfl
theorem jf2 : (mapsRowed Tryz.prog) = true := by kernel_rfl
theorem jf3 : (Tryz.f3.params.all (Tryz.prog.readableRec ·)) = true := by kernel_rfl
theorem jf4 : (namedTie Tryz.prog Rows.outboxBarsRow.named Rows.outboxBarsSpec.vars) = true := by kernel_rfl
theorem jf5 : ((Rows.outboxBarsRow.stops == [])) = true := by kernel_rfl
theorem jf6 : ((Tryz.prog.stops == [])) = true := by kernel_rfl
theorem jf7 : ((Rows.outboxBarsRow.knobs == [])) = true := by kernel_rfl
theorem jf8 : ((Tryz.prog.stopKnobs == [])) = true := by kernel_rfl
theorem jf9 : ((Rows.outboxBarsRow.inPlace == Tryz.prog.inPlace 3)) = true := by kernel_rfl
theorem jf10 : ((Rows.outboxBarsRow.unfollowed == Tryz.prog.unfollowed 3)) = true := by kernel_rfl

end Go.Proofs.YtdkcihleblbkaaaGreatDoor
