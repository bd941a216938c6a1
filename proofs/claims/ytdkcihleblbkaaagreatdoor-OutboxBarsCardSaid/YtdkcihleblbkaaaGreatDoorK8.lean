/-
  PROVED HERE: the closed facts of OutboxBars's row, the rest, each by itself (for the kernel's memory).
-/
import Derived.Test.YtdkcihleblbkaaaGreatDoorRows
import Derived.Conc.Holds
import Derived.ProofKit
import Derived.SevenTiedAt
namespace Go.Proofs.YtdkcihleblbkaaaGreatDoor

theorem jf11 : ((Rows.outboxBarsRow.recurses == Tryz.prog.recurses 3)) = true := by kernel_rfl
theorem jf12 : ((Rows.outboxBarsRow.named == Tryz.prog.varsNamed 3)) = true := by kernel_rfl
theorem jf13 : ((Rows.outboxBarsRow.maps == (Tryz.f3.params.toList ++ Rows.outboxBarsSpec.plain.varTypes Tryz.prog).any (Tryz.prog.mapsRec ·))) = true := by kernel_rfl
theorem jf14 : ((Rows.outboxBarsRow.ifaces == (Tryz.f3.params.toList ++ Rows.outboxBarsSpec.plain.varTypes Tryz.prog).any (Tryz.prog.ifacesRec ·))) = true := by kernel_rfl
theorem jf15 : ((Rows.outboxBarsRow.mapsOut == Tryz.prog.mapsAmong Tryz.f3.resultTypes.toList)) = true := by kernel_rfl
theorem jf16 : ((Rows.outboxBarsRow.loops == (Tryz.f3.params.toList ++ Rows.outboxBarsSpec.plain.varTypes Tryz.prog).any (Tryz.prog.loopsFrom ·))) = true := by kernel_rfl
theorem jf17 : ((Rows.outboxBarsRow.wideKeys == (Tryz.f3.params.toList ++ Rows.outboxBarsSpec.plain.varTypes Tryz.prog ++ Tryz.f3.resultTypes.toList).any (Tryz.prog.wideKeysFrom ·))) = true := by kernel_rfl
theorem jf18 : (Rows.outboxBarsSpec.vars.all (Tryz.prog.varReadable ·)) = true := by kernel_rfl
theorem jf19 : (Tryz.f3.resultTypes.all (fun t => Tryz.prog.readableRec t && decide (t < Tryz.prog.types.size))) = true := by kernel_rfl
theorem jf20 : ((Rows.outboxBarsRow.ifacesOut == Tryz.f3.resultTypes.toList.any (Tryz.prog.ifacesRec ·))) = true := by kernel_rfl
theorem jf21 : ((Rows.outboxBarsRow.loopsOut == Tryz.f3.resultTypes.toList.any (Tryz.prog.loopsFrom ·))) = true := by kernel_rfl
theorem jf22 : ((Rows.outboxBarsRow.plainKeys == Tryz.prog.plainKeys)) = true := by kernel_rfl
theorem jf23 : (Rows.outboxBarsRow.shortTexts.isNone) = true := by kernel_rfl
theorem jf24 : (Tryz.prog.stopsHeard) = true := by kernel_rfl
theorem jf25 : (Tryz.prog.mayEnter) = true := by kernel_rfl
theorem jf26 : ((Rows.outboxBarsRow.lifted == Tryz.prog.liftsFinal)) = true := by kernel_rfl
theorem jf27 : ((Tryz.prog.make == some Rows.outboxBarsRow.make)) = true := by kernel_rfl
theorem jf29 : ((Rows.outboxBarsRow.pinned == Rows.outboxBarsRow.pinnedBy)) = true := by kernel_rfl
theorem jf30 : ((Rows.outboxBarsRow.veiled == (Tryz.f3.params.toList ++ Rows.outboxBarsSpec.plain.varTypes Tryz.prog ++ Tryz.f3.resultTypes.toList).any (Tryz.prog.veiledRec ·))) = true := by kernel_rfl
theorem jf31 : (Rows.outboxBarsRow.veiledFits Tryz.prog Tryz.f3.params.toList (Tryz.f3.params.toList ++ Rows.outboxBarsSpec.plain.varTypes Tryz.prog ++ Tryz.f3.resultTypes.toList)) = true := by kernel_rfl

theorem named3 : Tryz.prog.funcNamed Rows.outboxBarsRow.func = some 3 := by kernel_rfl
theorem inst3 : Tryz.f3.isInstance Tryz.prog Rows.outboxBarsRow.origin Rows.outboxBarsRow.targs := of_decide_eq_true (by kernel_rfl)
theorem goes_true : true = Rows.outboxBarsRow.goesBy Tryz.prog := by kernel_rfl
theorem looks_true : true = Tryz.prog.looks [] := by kernel_rfl
theorem main_is : Tryz.prog.mainIs = some (true, ("20721f0eda9ea5e6328231e7594cc1a46fffebeef771fe2998e0abc59d15d557" : String).toList) := by kernel_rfl
theorem wf_text : Rows.outboxBarsRow.wfByText (OpenSpec.ofChange Rows.outboxBarsSpec) = true := by kernel_rfl
theorem no_standIn : ([3, 9, 2, 5].all fun u => !Tryz.prog.wantsStandIn u) = true := by kernel_rfl
theorem own : ownKnob Tryz.prog.godebug = none := by kernel_rfl
theorem no_init : Tryz.prog.inits.idxOf? 3 = none := by kernel_rfl

end Go.Proofs.YtdkcihleblbkaaaGreatDoor
