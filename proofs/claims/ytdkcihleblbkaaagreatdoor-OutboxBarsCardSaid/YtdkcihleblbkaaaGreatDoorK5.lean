/- A verified symbolic executor, part K5: the law's call, put together of the kernel's runs. -/
import Derived.Test.YtdkcihleblbkaaaGreatDoorK4
import Derived.Test.YtdkcihleblbkaaaGreatDoorW0
import Derived.Test.YtdkcihleblbkaaaGreatDoorW1
import Derived.Test.YtdkcihleblbkaaaGreatDoorW2
import Derived.Test.YtdkcihleblbkaaaGreatDoorW3
import Derived.Test.YtdkcihleblbkaaaGreatDoorW4
import Derived.Test.YtdkcihleblbkaaaGreatDoorW5
import Derived.Test.YtdkcihleblbkaaaGreatDoorW6
import Derived.Test.YtdkcihleblbkaaaGreatDoorW7
import Derived.Test.YtdkcihleblbkaaaGreatDoorW8
import Derived.Test.YtdkcihleblbkaaaGreatDoorW9
namespace Go.Proofs.YtdkcihleblbkaaaGreatDoor.Eng
set_option linter.unusedVariables false
set_option linter.unusedSimpArgs false
set_option linter.unusedSectionVars false
open Go
set_option maxRecDepth 100000

theorem p2L' : allO (fun j s => match j with | .ret => endT j s | _ => false) (runX (sq1 R2) (scnA now0 txL).st) = true := by kernel_rfl

theorem rdAll (k : Nat) (hk : k ≤ 65) : allO (endB (toldS txA k) (nextS k)) (runX LB (toldS txA k).st) = true :=
  match k, hk with
  | 0, _ => rd0
  | 1, _ => rd1
  | 2, _ => rd2
  | 3, _ => rd3
  | 4, _ => rd4
  | 5, _ => rd5
  | 6, _ => rd6
  | 7, _ => rd7
  | 8, _ => rd8
  | 9, _ => rd9
  | 10, _ => rd10
  | 11, _ => rd11
  | 12, _ => rd12
  | 13, _ => rd13
  | 14, _ => rd14
  | 15, _ => rd15
  | 16, _ => rd16
  | 17, _ => rd17
  | 18, _ => rd18
  | 19, _ => rd19
  | 20, _ => rd20
  | 21, _ => rd21
  | 22, _ => rd22
  | 23, _ => rd23
  | 24, _ => rd24
  | 25, _ => rd25
  | 26, _ => rd26
  | 27, _ => rd27
  | 28, _ => rd28
  | 29, _ => rd29
  | 30, _ => rd30
  | 31, _ => rd31
  | 32, _ => rd32
  | 33, _ => rd33
  | 34, _ => rd34
  | 35, _ => rd35
  | 36, _ => rd36
  | 37, _ => rd37
  | 38, _ => rd38
  | 39, _ => rd39
  | 40, _ => rd40
  | 41, _ => rd41
  | 42, _ => rd42
  | 43, _ => rd43
  | 44, _ => rd44
  | 45, _ => rd45
  | 46, _ => rd46
  | 47, _ => rd47
  | 48, _ => rd48
  | 49, _ => rd49
  | 50, _ => rd50
  | 51, _ => rd51
  | 52, _ => rd52
  | 53, _ => rd53
  | 54, _ => rd54
  | 55, _ => rd55
  | 56, _ => rd56
  | 57, _ => rd57
  | 58, _ => rd58
  | 59, _ => rd59
  | 60, _ => rd60
  | 61, _ => rd61
  | 62, _ => rd62
  | 63, _ => rd63
  | 64, _ => rd64
  | 65, _ => rd65
  | k + 66, h => absurd h (by omega)
theorem tsAll (k : Nat) (hk : k ≤ 65) : allO endT (runX LT (toldS txS k).st) = true :=
  match k, hk with
  | 0, _ => ts0
  | 1, _ => ts1
  | 2, _ => ts2
  | 3, _ => ts3
  | 4, _ => ts4
  | 5, _ => ts5
  | 6, _ => ts6
  | 7, _ => ts7
  | 8, _ => ts8
  | 9, _ => ts9
  | 10, _ => ts10
  | 11, _ => ts11
  | 12, _ => ts12
  | 13, _ => ts13
  | 14, _ => ts14
  | 15, _ => ts15
  | 16, _ => ts16
  | 17, _ => ts17
  | 18, _ => ts18
  | 19, _ => ts19
  | 20, _ => ts20
  | 21, _ => ts21
  | 22, _ => ts22
  | 23, _ => ts23
  | 24, _ => ts24
  | 25, _ => ts25
  | 26, _ => ts26
  | 27, _ => ts27
  | 28, _ => ts28
  | 29, _ => ts29
  | 30, _ => ts30
  | 31, _ => ts31
  | 32, _ => ts32
  | 33, _ => ts33
  | 34, _ => ts34
  | 35, _ => ts35
  | 36, _ => ts36
  | 37, _ => ts37
  | 38, _ => ts38
  | 39, _ => ts39
  | 40, _ => ts40
  | 41, _ => ts41
  | 42, _ => ts42
  | 43, _ => ts43
  | 44, _ => ts44
  | 45, _ => ts45
  | 46, _ => ts46
  | 47, _ => ts47
  | 48, _ => ts48
  | 49, _ => ts49
  | 50, _ => ts50
  | 51, _ => ts51
  | 52, _ => ts52
  | 53, _ => ts53
  | 54, _ => ts54
  | 55, _ => ts55
  | 56, _ => ts56
  | 57, _ => ts57
  | 58, _ => ts58
  | 59, _ => ts59
  | 60, _ => ts60
  | 61, _ => ts61
  | 62, _ => ts62
  | 63, _ => ts63
  | 64, _ => ts64
  | 65, _ => ts65
  | k + 66, h => absurd h (by omega)
theorem tbAll (k : Nat) (hk : k ≤ 65) : allO endT (runX LT (toldS txB k).st) = true :=
  match k, hk with
  | 0, _ => tb0
  | 1, _ => tb1
  | 2, _ => tb2
  | 3, _ => tb3
  | 4, _ => tb4
  | 5, _ => tb5
  | 6, _ => tb6
  | 7, _ => tb7
  | 8, _ => tb8
  | 9, _ => tb9
  | 10, _ => tb10
  | 11, _ => tb11
  | 12, _ => tb12
  | 13, _ => tb13
  | 14, _ => tb14
  | 15, _ => tb15
  | 16, _ => tb16
  | 17, _ => tb17
  | 18, _ => tb18
  | 19, _ => tb19
  | 20, _ => tb20
  | 21, _ => tb21
  | 22, _ => tb22
  | 23, _ => tb23
  | 24, _ => tb24
  | 25, _ => tb25
  | 26, _ => tb26
  | 27, _ => tb27
  | 28, _ => tb28
  | 29, _ => tb29
  | 30, _ => tb30
  | 31, _ => tb31
  | 32, _ => tb32
  | 33, _ => tb33
  | 34, _ => tb34
  | 35, _ => tb35
  | 36, _ => tb36
  | 37, _ => tb37
  | 38, _ => tb38
  | 39, _ => tb39
  | 40, _ => tb40
  | 41, _ => tb41
  | 42, _ => tb42
  | 43, _ => tb43
  | 44, _ => tb44
  | 45, _ => tb45
  | 46, _ => tb46
  | 47, _ => tb47
  | 48, _ => tb48
  | 49, _ => tb49
  | 50, _ => tb50
  | 51, _ => tb51
  | 52, _ => tb52
  | 53, _ => tb53
  | 54, _ => tb54
  | 55, _ => tb55
  | 56, _ => tb56
  | 57, _ => tb57
  | 58, _ => tb58
  | 59, _ => tb59
  | 60, _ => tb60
  | 61, _ => tb61
  | 62, _ => tb62
  | 63, _ => tb63
  | 64, _ => tb64
  | 65, _ => tb65
  | k + 66, h => absurd h (by omega)

theorem tmS_one (a0 a1 a1' a12 : AV) : tmS a0 a1' a12 = (tmS a0 a1 a12).put 1 (some a1') := rfl
theorem tmS_any (a0 a1 a12 : AV) : tmS a0 a1 .any = (tmS a0 a1 a12).put 12 (some .any) := rfl

/-- a temporary told anew -/
theorem srep_put {q : Nat} {μ : Mu} {st : St} {tmps : Array Value} {df : List Deferred} {w : World} (h : SRep q μ st tmps df w) (i : Nat) (a : AV) (ha : ∀ v, tmps[i]? = some v → Rep q μ a v) :
    SRep q μ { st with tm := st.tm.put i (some a) } tmps df w := by
  refine ⟨h.size, ?_, h.dfr, h.heap, h.fresh⟩
  intro j v hv
  show Rep q μ (((st.tm.put i (some a)).at_ j).getD undefA) v
  rw [T.at_put]
  by_cases e : j = i
  · rw [if_pos e]; subst e; exact ha v hv
  · rw [if_neg e]; exact h.tmp j v hv

section top
variable (hG : TbOk Tryz.prog G) {q : Nat} (hq : q < 8)
include hG hq

abbrev TL (q : Nat) (C : CC) (st : St) (O : Post1) : Prop := TpC Tryz.prog q 3 G.D.at_ G.ext C st O

theorem runT {C : CC} {st : St} {p : Jump → St → Bool} (h : allO p (runX C st) = true) : TL q C st fun j s => p j s = true := by
  obtain ⟨l, hl, hp⟩ := allO_ok h
  exact TpC.run hG hq FC_ok hl hp

theorem stage {A B : CC} {st : St} {a : Scn} {O : Post1} (h : allO (endN a) (runX A st) = true) (h2 : TL q B a.st O) : TL q (.seq A B) st O := by
  refine TpC.seq (runT hG hq h) (fun s hs => TpC.from h2 (wkS_ok hs)) fun j s hj hs => ?_
  cases j with
  | normal => exact absurd rfl hj
  | exit i => simp [endN] at hs
  | ret => simp [endN] at hs

/-- the end: straight on or by 'return', with true -/
def Fin (j : Jump) (s : St) : Prop := endT j s = true

theorem loopAt {S : Nat → Scn} {E : Scn} {nx : Nat → Option Scn} (hE : ∀ k, Wk q (S k).st E.st ∨ True) (hnx : ∀ k, nx k = bif Nat.blt k 65 then some (S (k + 1)) else none)
    (h : ∀ k, k ≤ 65 → allO (endB (S k) (nx k)) (runX LB (S k).st) = true) : TL q (.block 0 (.loop LB)) (S 0).st fun j s => j = .normal ∧ ∃ k, k ≤ 65 ∧ s = (S k).st := by
  have _ := hE
  refine TpC.block (O1 := fun j s => j ≠ .normal ∧ (j = .exit 0 ∧ ∃ k, k ≤ 65 ∧ s = (S k).st)) ?_ ?_ ?_ ?_ ?_
  · refine TpC.loop (S := fun k => (S k).st) 65 fun k hk => TpC.weak (runT hG hq (h k hk)) fun j s hs => ?_
    cases j with
    | exit i =>
      simp only [endB, Bool.and_eq_true] at hs
      have hi := beq_nat hs.1
      subst hi
      exact ⟨_, wkS_ok hs.2, .inr ⟨by simp, rfl, k, hk, rfl⟩⟩
    | normal =>
      simp only [endB] at hs
      rw [hnx k] at hs
      cases hb : Nat.blt k 65 with
      | false => simp [hb] at hs
      | true =>
        simp only [hb, cond_true] at hs
        exact ⟨_, wkS_ok hs, .inl ⟨rfl, blt_lt hb, rfl⟩⟩
    | ret => simp [endB] at hs
  · intro s hs; exact absurd rfl hs.1
  · intro s hs; exact ⟨rfl, hs.2.2⟩
  · intro s hs; exact absurd hs.2.1 (by simp)
  · intro i s hi hs; exact absurd hs.2.1 (by simpa using hi)

theorem tailD (k : Nat) (hk : k ≤ 65) : TL q LT (toldS txA k).st Fin := by
  refine TpC.split (s1 := (toldS txS k).st) (s2 := (toldS txB k).st) ?_ (runT hG hq (tsAll k hk)) (runT hG hq (tbAll k hk))
  intro μ tmps df w hs
  have hsz : tmps.size = 168 := hs.size
  have hv : tmps[1]? = some tmps[1] := Array.getElem?_eq_getElem (by omega)
  have h1 := hs.tmp 1 _ hv
  have e1 : (((toldS txA k).st.tm.at_ 1).getD undefA) = .astr 0 20000 := rfl
  rw [e1] at h1
  simp only [Rep] at h1
  obtain ⟨b, hb, _, h2⟩ := h1
  by_cases hc : b.size ≤ 16368
  · refine .inl (srep_put hs 1 txS fun v hv' => ?_)
    rw [hv] at hv'
    obtain rfl := Option.some.inj hv'
    simp only [txS, Rep]
    exact ⟨b, hb, by omega, hc⟩
  · refine .inr (srep_put hs 1 txB fun v hv' => ?_)
    rw [hv] at hv'
    obtain rfl := Option.some.inj hv'
    simp only [txB, Rep]
    exact ⟨b, hb, by omega, h2⟩

theorem bodyD : TL q cf3.body (entrySt (args0 toD txA) 168 st0) Fin := by
  rw [R1_eq]
  refine stage hG hq p0D ?_
  rw [R2_eq]
  refine stage hG hq p1D ?_
  rw [R3_eq]
  refine stage hG hq p2D ?_
  rw [R4_eq]
  refine stage hG hq p3D ?_
  rw [R5_eq]
  refine stage hG hq p4D ?_
  rw [R6_eq]
  refine stage hG hq p5D ?_
  rw [R7_eq]
  refine TpC.seq (O1 := fun j s => j = .normal ∧ ∃ k, k ≤ 65 ∧ s = (toldS txA k).st) ?_ ?_ fun j s hj hs => absurd hs.1 hj
  · rw [LS_eq]
    exact stage hG hq p6D (loopAt hG hq (S := toldS txA) (E := toldS txA 0) (nx := nextS) (fun _ => .inr trivial) (fun _ => rfl) rdAll)
  · rintro s ⟨_, k, hk, rfl⟩
    exact tailD hG hq k hk

theorem bodyN {a0 : AV} (h0 : allO (endN (scnA a0 txA)) (runX (sq1 cf3.body) (entrySt (args0 a0 txA) 168 st0)) = true) (h1 : allO (endN (scnA a0 txA)) (runX (sq1 R1) (scnA a0 txA).st) = true)
    (h2 : allO (endN (scnA a0 txA)) (runX (sq1 R2) (scnA a0 txA).st) = true) (h3 : allO (endN (scnB a0 txA)) (runX (sq1 R3) (scnA a0 txA).st) = true) (h4 : allO (endN (scnB a0 txA)) (runX (sq1 R4) (scnB a0 txA).st) = true)
    (h5 : allO (endN (scnC a0 txA)) (runX (sq1 R5) (scnB a0 txA).st) = true) (h6 : allO (endN (toldN a0 (intN 0))) (runX (sq1 LS) (scnC a0 txA).st) = true)
    (hr : upTo (fun k => allO (endB (toldN a0 (intN k)) (nextN a0 k)) (runX LB (toldN a0 (intN k)).st)) 66 = true) (ht : allO endT (runX LT (toldN a0 .any).st) = true) : TL q cf3.body (entrySt (args0 a0 txA) 168 st0) Fin := by
  rw [R1_eq]
  refine stage hG hq h0 ?_
  rw [R2_eq]
  refine stage hG hq h1 ?_
  rw [R3_eq]
  refine stage hG hq h2 ?_
  rw [R4_eq]
  refine stage hG hq h3 ?_
  rw [R5_eq]
  refine stage hG hq h4 ?_
  rw [R6_eq]
  refine stage hG hq h5 ?_
  rw [R7_eq]
  refine TpC.seq (O1 := fun j s => j = .normal ∧ ∃ k, k ≤ 65 ∧ s = (toldN a0 (intN k)).st) ?_ ?_ fun j s hj hs => absurd hs.1 hj
  · rw [LS_eq]
    exact stage hG hq h6 (loopAt hG hq (S := fun k => toldN a0 (intN k)) (E := toldN a0 .any) (nx := nextN a0) (fun _ => .inr trivial) (fun _ => rfl) fun k hk => upTo_ok hr k (by omega))
  · rintro s ⟨_, k, hk, rfl⟩
    exact TpC.from (runT hG hq ht) fun μ tmps df w hs => srep_put hs 12 .any fun v _ => by simp [Rep]

theorem bodyL : TL q cf3.body (entrySt (args0 now0 txL) 168 st0) Fin := by
  rw [R1_eq]
  refine stage hG hq p0L ?_
  rw [R2_eq]
  refine stage hG hq p1L ?_
  rw [R3_eq]
  refine TpC.seq (runT hG hq p2L') (fun s hs => absurd hs (by simp)) fun j s hj hs => ?_
  cases j with
  | normal => exact absurd rfl hj
  | exit i => simp at hs
  | ret => exact hs

end top

theorem f3_parts : ∃ c, Tryz.f3.body = some c ∧ comp G.D.at_ G.ext c = cf3.body := by
  have h := c3_eq
  unfold cmp compF at h
  cases hb : Tryz.f3.body with
  | none => rw [hb] at h; cases h
  | some c =>
    rw [hb] at h
    simp only [Option.some.injEq] at h
    exact ⟨c, rfl, congrArg CF.body h⟩

theorem fin_res {j : Jump} {s : St} (h : Fin j s) : (∀ i, j ≠ .exit i) ∧ s.df = [] ∧ resA G.D.at_ Tryz.f3.results.toList s = some (.bool true) := by
  have hr : Tryz.f3.results.toList = [.tmp 8] := by kernel_rfl
  unfold Fin endT at h
  cases j with
  | exit i => cases h
  | _ =>
    simp only [Bool.and_eq_true] at h
    obtain ⟨⟨h1, h2⟩, h3⟩ := h
    refine ⟨fun i => by simp, ?_, ?_⟩
    · cases hd : s.df with
      | nil => rfl
      | cons _ _ => rw [hd] at h1; cases h1
    · rw [hr]
      cases ha : s.tm.at_ 8 with
      | none => rw [ha] at h3; cases h3
      | some a =>
        rw [ha] at h3
        cases a with
        | bool b =>
          simp only at h3
          subst h3
          simp [resA, resL, resV, ev, h2, ha]
        | _ => cases h3

/-- The law's call: true, and the world is as it was but for new blocks. -/
theorem law_calls (hG : TbOk Tryz.prog G) (to now there : Int) (text : ByteArray) (h1 : -9223372036854775808 ≤ to) (h2 : to ≤ 9223372036854775807) (h3 : -9223372036854775808 ≤ now) (h4 : now ≤ 9223372036854775807)
    (h5 : 0 ≤ there) (h6 : there ≤ 255) (h7 : text.size ≤ 9223372036854775807) (w : World) :
    Calls Tryz.prog 3 #[.int .i64 to, .string text, .int .i64 now, .int .u8 there] w fun e w' => e = .returned (.bool true) ∧ ∃ μ, Keeps w μ w' := by
  obtain ⟨c, hc, hcomp⟩ := f3_parts
  have hfn : Tryz.prog.funcs[3]? = some Tryz.f3 := Tryz.func3
  have hnt : Tryz.f3.ntmps = 168 := by kernel_rfl
  have hD : DOk Tryz.prog G.D.at_ := hG.D
  have fin : ∀ {q : Nat} (_ : q < 8) {a0 a1 : AV}, TL q cf3.body (entrySt (args0 a0 a1) 168 st0) Fin → Rep q (fun _ => none) a0 (.int .i64 to) → Rep q (fun _ => none) a1 (.string text) →
      Calls Tryz.prog 3 #[.int .i64 to, .string text, .int .i64 now, .int .u8 there] w fun e w' => e = .returned (.bool true) ∧ ∃ μ, Keeps w μ w' := by
    intro q hq a0 a1 hb r0 r1
    have h := (hb c hcomp).mono fun j s hs => fin_res hs
    rw [← hnt] at h
    refine (Tp.calls hq hD hfn hc h (w := w) (argsV := #[.int .i64 to, .string text, .int .i64 now, .int .u8 there]) ?_).mono ?_
    · simp only [args0, now0, there0, RepL, Rep]
      exact ⟨r0, r1, ⟨now, rfl, h3, h4⟩, ⟨there, rfl, h5, h6⟩, trivial⟩
    · rintro e w' ⟨v, μ, rfl, hr, hk⟩
      simp only [Rep] at hr
      subst hr
      exact ⟨rfl, μ, hk⟩
  by_cases hl : text.size ≤ 20000
  · have rA : ∀ q, Rep q (fun _ => none) txA (.string text) := fun q => by simp only [txA, Rep]; exact ⟨text, rfl, by omega, hl⟩
    by_cases hn : to < 0
    · exact fin (q := 0) (by omega) (bodyN hG (by omega) p0N p1N p2N p3N p4N p5N p6N rdN tlN) (by simp only [toN, Rep]; exact ⟨to, rfl, h1, by omega⟩) (rA 0)
    · by_cases hp : 8 ≤ to
      · exact fin (q := 0) (by omega) (bodyN hG (by omega) p0P p1P p2P p3P p4P p5P p6P rdP tlP) (by simp only [toP, Rep]; exact ⟨to, rfl, hp, h2⟩) (rA 0)
      · exact fin (q := to.toNat) (by omega) (bodyD hG (by omega)) (by simp only [toD, Rep]; congr 1; omega) (rA _)
  · exact fin (q := 0) (by omega) (bodyL hG (by omega)) (by simp only [now0, Rep]; exact ⟨to, rfl, h1, h2⟩) (by simp only [txL, Rep]; exact ⟨text, rfl, by omega, h7⟩)

end Go.Proofs.YtdkcihleblbkaaaGreatDoor.Eng
