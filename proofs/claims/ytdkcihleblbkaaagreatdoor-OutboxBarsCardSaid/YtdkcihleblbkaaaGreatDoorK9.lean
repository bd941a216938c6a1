/-
  PROVED HERE: 'Rows.OutboxBarsCardSaid': redress/redresslaw19.OutboxBars returns true for every input, from every start that the row allows, and its input reads as it did. The call itself: part K5 (a verified symbolic executor's run in the kernel), part K7 (redress/sum.More).
-/
import Derived.Test.YtdkcihleblbkaaaGreatDoorRows
import Derived.Test.YtdkcihleblbkaaaGreatDoorTie
import Derived.Test.YtdkcihleblbkaaaGreatDoorCards
import Derived.Test.YtdkcihleblbkaaaGreatDoorK7
import Derived.Test.YtdkcihleblbkaaaGreatDoorK8
import Derived.Test.YtdkcihleblbkaaaGreatDoorK8a
import Derived.Test.YtdkcihleblbkaaaGreatDoorK5
import Derived.ProofKit
import Derived.OpenShut
import Derived.ShutString
import Derived.LaidMore
import Derived.Lay
import Derived.SevenTiedAt
import Derived.Stop.Joined
import Derived.Conc.Holds
namespace Go.Proofs.YtdkcihleblbkaaaGreatDoor.Eng
set_option linter.unusedVariables false
set_option linter.unusedSimpArgs false
set_option linter.unusedSectionVars false
open Go

theorem wf_i64 {n : Int} (h : (Lit.int .i64 n).wf = true) : -9223372036854775808 ≤ n ∧ n ≤ 9223372036854775807 := by
  simp [Lit.wf, IntKind.min, IntKind.max, IntKind.signed, IntKind.bits] at h
  omega
theorem wf_u8 {n : Int} (h : (Lit.int .u8 n).wf = true) : 0 ≤ n ∧ n ≤ 255 := by
  simp [Lit.wf, IntKind.min, IntKind.max, IntKind.signed, IntKind.bits] at h
  omega

theorem Keeps.kept {w w' : World} {μ : Mu} (h : Keeps w μ w') (may : MemPlace → Prop) : w.keptBut w' may := by
  refine ⟨h.os, h.output, fun i hi => ?_⟩
  rw [h.frame i hi]
  split <;> simp_all

theorem only_of_quiet {P : Program} {m : Machine} (h : m.quiet) : m.OnlyLeaving P := by
  refine ⟨fun g hg => ⟨0, ?_⟩, h.2⟩
  have := List.all_eq_true.1 h.1 g hg
  simpa [Goroutine.LeavesIn] using this

theorem leaving_of_handed {a : Assume} {C : Checked} {os : Os} {f : FuncId} {r : Reach} {Pre : World → Array Value → Prop} {Post : World → Array Value → Value → World → Prop} (h : ReturnsInHanded a C os f r Pre Post) :
    ReturnsInLeavingWide a C os f r Pre Post :=
  fun enter => ReturnsInOpen.mono (fun _ _ _ ⟨hq, hh, he⟩ => ⟨hh, only_of_quiet hq, he⟩) (fun _ x => x) (h enter)
end Go.Proofs.YtdkcihleblbkaaaGreatDoor.Eng

namespace Go.Proofs.YtdkcihleblbkaaaGreatDoor
set_option linter.unusedVariables false
set_option linter.unusedSimpArgs false
set_option linter.unusedSectionVars false
open Go.ChangeShapes Go.WideShapes Go.ChangeAt Go.RowKit
open Go.ChangeMaps (open_string shut_string)
set_option linter.unusedVariables false

abbrev laidList : List (String × DataW Unit) := Rows.outboxBarsRow.laid

set_option maxRecDepth 100000 in
theorem lifted (os : Os) (started : os.Started) (H : Type) (enc : TypeId × Value → H) :
    ReturnsInHanded {} Tryz.checked os 3 .any (fun w args => (Rows.outboxBarsSpec.pre enc Tryz.prog Tryz.f3 Rows.outboxBarsRow.domain false w args ∧ laidMetH Tryz.prog laidList w) ∧ sizedMet enc Tryz.prog Tryz.f3 (OpenSpec.ofChange Rows.outboxBarsSpec) false w args)
      (Rows.outboxBarsSpec.post enc Tryz.prog Tryz.f3 false true false false) := by
  refine returnsInHanded_of_change_and (C := Tryz.checked) (X := fun w _ => laidMetH Tryz.prog laidList w) (fun _ _ _ hh h => h.of_heap hh) own started no_init Tryz.func3
    (ChangeSpec.witness_shaped (enc := enc) (C := Tryz.checked) (os := os) (X := fun w _ => laidMetH Tryz.prog laidList w) false (World.laidAll Tryz.prog os laidList) #[.int .i64 0, .string ByteArray.empty, .int .i64 0, .int .u8 0] 8 (World.laidAll_os _ _ _)
      (World.shaped_of_ZipB (by kernel_rfl) (by kernel_rfl)) (by kernel_rfl) (by kernel_rfl) (by kernel_rfl)
      (by rw [MakeChecks.laidMetH_plain _ _ _ (by kernel_rfl)]; exact laidMet_laidAll _ (by kernel_rfl) (by kernel_rfl))) ?_
  intro W base args ds gs before hval0 hW hc _ hL _
  have hval : ∀ (j : Nat) t v, Tryz.f3.params[j]? = some t → args[j]? = some v → Value.okWide Tryz.prog W .any base t v := hval0
  have hW' := hW
  obtain ⟨p, q, hA0, hV, rfl, _, _⟩ := hW
  have hA : DataW.TrodAll enc Tryz.prog W 0 (fun _ => true) true Tryz.f3.params.toList args.toList ds p := hA0
  rw [Tryz.params3] at hA hval
  obtain ⟨v0, vs0, d0, ds0, p0, q0, hargs, rfl, rfl, h0, r0⟩ := trodAll_cons hA
  obtain ⟨v1, vs1, d1, ds1, p1, q1, rfl, rfl, rfl, h1, r1⟩ := trodAll_cons r0
  obtain ⟨v2, vs2, d2, ds2, p2, q2, rfl, rfl, rfl, h2, r2⟩ := trodAll_cons r1
  obtain ⟨v3, vs3, d3, ds3, p3, q3, rfl, rfl, rfl, h3, r3⟩ := trodAll_cons r2
  obtain ⟨rfl, rfl, rfl⟩ := trodAll_nil r3
  obtain rfl : args = #[v0, v1, v2, v3] := by cases args; simp_all
  obtain ⟨rfl, rfl⟩ := trodVars_none hV
  obtain ⟨a0, rfl, rfl, rfl, w0⟩ := open_int Tryz.underlying3 (hval 0 3 v0 rfl rfl) h0
  obtain ⟨a1, rfl, rfl, rfl, w1⟩ := open_string Tryz.underlying9 (hval 1 9 v1 rfl rfl) h1
  obtain ⟨a2, rfl, rfl, rfl, w2⟩ := open_int Tryz.underlying2 (hval 2 2 v2 rfl rfl) h2
  obtain ⟨a3, rfl, rfl, rfl, w3⟩ := open_int Tryz.underlying5 (hval 3 5 v3 rfl rfl) h3
  clear hA0 hval0
  simp only [List.append_nil] at hW'
  have b1 : a1.size ≤ 9223372036854775807 := by unfold maxLen at w1; omega
  refine (Eng.law_calls Eng.G_ok a0 a2 a3 a1 (Eng.wf_i64 w0).1 (Eng.wf_i64 w0).2 (Eng.wf_i64 w2).1 (Eng.wf_i64 w2).2 (Eng.wf_u8 w3).1 (Eng.wf_u8 w3).2 b1 W).mono fun e W' ⟨he, μ, hk⟩ => ?_
  subst he
  exact ⟨_, rfl, _, _, _, [], _, [], hW', trodAll_cons_mk (shut_bool Tryz.underlying4 _) trodAll_mk0,
    trodAll_cons_mk (shut_int Tryz.underlying3 w0) (trodAll_cons_mk (shut_string Tryz.underlying9 w1) (trodAll_cons_mk (shut_int Tryz.underlying2 w2) (trodAll_cons_mk (shut_int Tryz.underlying5 w3) trodAll_mk0))), rfl, hk.kept _, fun h => by cases h⟩

theorem closedFacts : joinedFacts Tryz.prog 3 Tryz.f3 Rows.outboxBarsSpec Rows.outboxBarsRow = true := by
  unfold joinedFacts
  simp only [Bool.and_eq_true]
  exact ⟨⟨⟨⟨⟨⟨⟨⟨⟨⟨⟨⟨⟨⟨⟨⟨⟨⟨⟨⟨⟨⟨⟨⟨⟨⟨⟨⟨⟨⟨⟨jf0, jf1⟩, jf2⟩, jf3⟩, jf4⟩, jf5⟩, jf6⟩, jf7⟩, jf8⟩, jf9⟩, jf10⟩, jf11⟩, jf12⟩, jf13⟩, jf14⟩, jf15⟩, jf16⟩, jf17⟩, jf18⟩, jf19⟩, jf20⟩, jf21⟩, jf22⟩, jf23⟩, jf24⟩, jf25⟩, jf26⟩, jf27⟩, (by kernel_rfl)⟩, jf29⟩, jf30⟩, jf31⟩

set_option maxRecDepth 100000 in
theorem wrap3 : Tryz.f3.isWrapper Tryz.prog Rows.outboxBarsRow.wrapper Rows.outboxBarsRow.mainSum := by unfold Func.isWrapper; first | (rw [if_pos (by decide +kernel)]; kernel_rfl) | (rw [if_neg (by decide +kernel)]; exact ⟨rfl, rfl⟩)

theorem over : Rows.outboxBarsRow.holds Tryz.pinned (OpenSpec.ofChange Rows.outboxBarsSpec) :=
  OpenClaim.holds_of_wide_leaving 3 Tryz.f3 rfl rfl rfl rfl rfl rfl rfl ⟨rfl, rfl, rfl, rfl, rfl⟩ rfl rfl rfl rfl rfl named3 Tryz.func3 closedFacts inst3 wrap3
    (fun os started H enc _ => Eng.leaving_of_handed (lifted os started H enc))

/-- THE CARD. -/
theorem outboxBars_card_holds : Rows.OutboxBarsCardSaid := by
  have hl : ∀ f fn, Tryz.prog.funcNamed "redress/redresslaw19.OutboxBars" = some f → Tryz.prog.funcs[f]? = some fn → true = Tryz.prog.looks [] ∧ ∀ (j : Nat) t, fn.params[j]? = some t → Tryz.prog.wantsStandIn t = false := fun f fn hf hfn => by
    obtain rfl : f = 3 := Option.some.inj (named3.symm.trans hf) |>.symm
    obtain rfl : fn = Tryz.f3 := (Option.some.inj (Tryz.func3.symm.trans hfn)).symm
    exact ⟨looks_true, fun j t ht => by
      rw [Tryz.params3] at ht
      have hm : t ∈ [3, 9, 2, 5] := by simpa using Array.mem_of_getElem? ht
      exact (show Tryz.prog.wantsStandIn t = false by simpa using List.all_eq_true.1 no_standIn t hm)⟩
  have hn := Claim7.tied_new_at .later [.data, .data, .data, .data, .sentinel, .sentinel, .pinned] true
    (Claim7.new_of_sixth over (true, "20721f0eda9ea5e6328231e7594cc1a46fffebeef771fe2998e0abc59d15d557") true rfl ⟨rfl, rfl⟩ main_is rfl hl) wf_text
  exact ⟨hn, (fun _ h => by cases h), outboxBars_row_tie, (fun h => by cases h), goes_true⟩

end Go.Proofs.YtdkcihleblbkaaaGreatDoor
