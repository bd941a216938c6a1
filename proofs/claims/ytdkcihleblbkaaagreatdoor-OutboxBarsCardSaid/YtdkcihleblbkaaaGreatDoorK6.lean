/- A verified symbolic executor, part K6: redress/sum's table: what its call hands back. -/
import Derived.Test.YtdkcihleblbkaaaGreatDoorK1
namespace Go.Proofs.YtdkcihleblbkaaaGreatDoor.Eng
set_option linter.unusedVariables false
set_option linter.unusedSimpArgs false
set_option linter.unusedSectionVars false
open Go
set_option maxRecDepth 1000000

theorem Tp.callsH {P : Program} {q : Nat} (hq : q < 8) {D : Ty} (hD : DOk P D) {k : FuncId} {fn : Func} {c : Code} (hfn : P.funcs[k]? = some fn) (hbody : fn.body = some c) {args : List AV} {a : AV} {Q : St → Prop}
    (h : Tp P q k c (entrySt args fn.ntmps st0) fun j s => (∀ i, j ≠ .exit i) ∧ s.df = [] ∧ resA D fn.results.toList s = some a ∧ Q s) {w : World} {argsV : Array Value} (ha : RepL q (fun _ => none) args argsV.toList) :
    Calls P k argsV w fun e w' => ∃ v μ s, e = .returned v ∧ Rep q μ a v ∧ Keeps w μ w' ∧ HRep q μ s.h w' ∧ Q s := by
  intro cs
  have henter : Frame.enter P k argsV .normal = mk k none (argsV ++ Array.replicate (fn.ntmps - argsV.size) undef) [] [.code c] := by
    simp [Frame.enter, mk, hfn, hbody]
  have hent := entry_rep (q := q) (st := st0) (nt := fn.ntmps) (w := w) (mu_none_rep (q := q)) (fun _ _ => rfl) ha
  obtain ⟨j, s1, ⟨hj, hdf, hres, hQ⟩, μ', tmps', df', w', hs', hk', harr⟩ := h w _ _ _ w hent ⟨rfl, rfl, rfl, Nat.le_refl _, fun _ _ => rfl, fun _ _ h => by simp at h⟩ [] cs
  rw [← henter] at harr
  have hdf' : df' = [] := by
    have := hs'.dfr
    rw [hdf] at this
    cases df' with
    | nil => rfl
    | cons _ _ => simp [DefR] at this
  subst hdf'
  have hret : ∃ todo, Steps P (lone (Frame.enter P k argsV .normal) cs w) (lone { mk k none tmps' [] todo with mode := .returning } cs w') := by
    cases j with
    | normal => exact ⟨[], Steps.trans harr (.one st_leave_end)⟩
    | exit id => exact absurd rfl (hj id)
    | ret => obtain ⟨k0, h0⟩ := harr; exact ⟨_, Steps.trans h0 (.one st_leave_ret)⟩
  obtain ⟨todo, hst⟩ := hret
  obtain ⟨v, hrun, hrep⟩ := resA_ok hD hq fn s1 a hres μ' tmps' w' hs'.size hs'.tmp hs'.heap
  exact ⟨.returned v, w', { mk k none tmps' [] todo with mode := .returning }, ⟨v, μ', s1, rfl, hrep, hk', hs'.heap, hQ⟩, hst, rfl, rfl, rfl, rfl, fn, hfn, hrun⟩

noncomputable def ti325 : TI := ⟨.arr 256 182, 256, 1024, some (.agg (List.replicate 256 (.int .u32 0))), false⟩
noncomputable def dtM : T TI := dt1.put 325 (some ti325)
noncomputable def G2 : Tb := { G with D := dtM, ext := fun _ => 0 }

theorem D2_ok : DOk Tryz.prog G2.D.at_ where
  row := fun t ti h => by
    have h : dtM.at_ t = some ti := h
    unfold dtM at h
    rw [T.at_put] at h
    by_cases e : t = 325
    · rw [if_pos e] at h; cases h; subst e; have hm : mkTI Tryz.prog 325 false = some ti325 := (by kernel_rfl); exact hm
    · rw [if_neg e] at h; exact D_ok.row t ti h
  flds := fun t ti fs h hc f hf => by
    have h : dtM.at_ t = some ti := h
    show ∃ tf, dtM.at_ f.1 = some tf
    unfold dtM at h ⊢
    rw [T.at_put] at h ⊢
    by_cases e : t = 325
    · rw [if_pos e] at h; cases h; cases hc
    · rw [if_neg e] at h
      obtain ⟨tf, h'⟩ := D_ok.flds t ti fs h hc f hf
      by_cases e2 : f.1 = 325
      · rw [if_pos e2]; exact ⟨_, rfl⟩
      · rw [if_neg e2]; exact ⟨tf, h'⟩
  flat := fun t ti h he => by
    have h : dtM.at_ t = some ti := h
    unfold dtM at h
    rw [T.at_put] at h
    by_cases e : t = 325
    · rw [if_pos e] at h; cases h; cases he
    · rw [if_neg e] at h; exact D_ok.flat t ti h he

theorem E2_ok : ExtOk Tryz.prog G2.D.at_ G2.bt G2.ext :=
  ⟨fun _ (h : (0 : Nat) = 1) => absurd h (by omega), fun _ (h : (0 : Nat) = 2) => absurd h (by omega), fun _ (h : (0 : Nat) = 3) => absurd h (by omega), fun _ s (h : (0 : Nat) = s + 4) => absurd h (by omega)⟩

noncomputable def code211 : Code := match Tryz.f211.body with
  | some c => c
  | none => .skip
theorem body211 : Tryz.f211.body = some code211 := rfl

def u32B : AV → Bool
  | .int .u32 n => decide (0 ≤ n) && decide (n ≤ 4294967295)
  | _ => false
def allU : List AV → Bool
  | [] => true
  | a :: l => u32B a && allU l
def lenB : List AV → Nat → Bool
  | [], n => Nat.beq n 0
  | _ :: l, n => Nat.blt 0 n && lenB l (n - 1)

/-- the table's end: the address of a row of 256 numbers -/
def end211 (j : Jump) (s : St) : Bool :=
  match j with
  | .exit _ => false
  | _ => (match s.df with | [] => true | _ => false) && Nat.blt 0 s.n && (match s.tm.at_ 0 with | some (.ptr i o) => Nat.beq i 0 && Nat.beq o 0 | _ => false) &&
    (match s.h.at_ 0 with | some (.row _ cs _ true _ _) => allU cs && lenB cs 256 | _ => false)

def allL2 (p : Jump → St → Bool) : Out → Bool
  | [] => true
  | x :: l => p x.1 x.2 && allL2 p l
def allO2 (p : Jump → St → Bool) : Option Out → Bool
  | none => false
  | some l => allL2 p l

theorem allL2_ok {p : Jump → St → Bool} : ∀ {l : Out}, allL2 p l = true → ∀ j s, (j, s) ∈ l → p j s = true
  | [], _, j, s, hm => by simp at hm
  | x :: l, h, j, s, hm => by
    simp only [allL2, Bool.and_eq_true] at h
    rcases List.mem_cons.1 hm with e | e
    · cases e; exact h.1
    · exact allL2_ok h.2 j s e

theorem run211 : allO2 end211 (execC (G2.xC (fun _ _ _ => none) (fun _ _ _ => none) 211) (comp G2.D.at_ G2.ext code211) (entrySt [] 24 st0)) = true := by kernel_rfl

theorem tp211 : Tp Tryz.prog 0 211 code211 (entrySt [] 24 st0) fun j s => end211 j s = true := by
  cases ho : execC (G2.xC (fun _ _ _ => none) (fun _ _ _ => none) 211) (comp G2.D.at_ G2.ext code211) (entrySt [] 24 st0) with
  | none => have := run211; rw [ho] at this; cases this
  | some o =>
    have hr := run211
    rw [ho] at hr
    have hD : atF G2.D = G2.D.at_ := by funext i; exact atF_eq _ _
    have hx := execC_eq (x := G2.x (fun _ _ _ => none) (fun _ _ _ => none) 211) (y := G2.xC (fun _ _ _ => none) (fun _ _ _ => none) 211) (by simp only [Tb.x, Tb.xC, Tb.cxC, Tb.cx, hD]) (by simp only [Tb.x, Tb.xC, Tb.cxC, Tb.cx, hD]) rfl rfl code211 (entrySt [] 24 st0)
    have hcx : (G2.xC (fun _ _ _ => none) (fun _ _ _ => none) 211).cx.D = G2.D.at_ := hD
    rw [hcx] at hx
    have hcx2 : (G2.xC (fun _ _ _ => none) (fun _ _ _ => none) 211).cx.ext = G2.ext := rfl
    rw [hcx2, ho] at hx
    have i1 : CallOk Tryz.prog 0 (fun _ _ _ => none) := fun k args st rets h => nomatch h
    have i2 : ∀ (k : FuncId) (args : List AV) (st : St) (rets : Ret), (fun (_ : FuncId) (_ : List AV) (_ : St) => (none : Option Ret)) k args st = some rets → Enters Tryz.prog k := fun k args st rets h => nomatch h
    have i3 : YlOk Tryz.prog 0 (fun _ _ _ => none) := fun id args st rets h => nomatch h
    have hop : OpOk Tryz.prog 0 (opA (G2.cx (fun _ _ _ => none) (fun _ _ _ => none))) := opA_ok (by omega) D2_ok E2_ok i1 (fun k args st rets _ h => i2 k args st rets h) i3
    have hhp : OpOk Tryz.prog 0 (heapA (G2.cx (fun _ _ _ => none) (fun _ _ _ => none))) := heapA_ok (by omega) D2_ok E2_ok i1 (fun k args st rets _ h => i2 k args st rets h) i3
    have hX : XOk Tryz.prog 0 211 none (G2.x (fun _ _ _ => none) (fun _ _ _ => none) 211) :=
      ⟨hop, fun ops st ss h id => drawn_ok mixed_ok (pureA_prok D2_ok (by omega)) hhp (pureA_cong _) (fun st => heapA_cong _ st) h 211 none id, fun gg ps asg body st o h => rng_ok i1 i2 h⟩
    exact .of_code (exec_ok hX code211 _ o hx.symm) (allL2_ok hr)

theorem lenB_ok : ∀ {l : List AV} {n : Nat}, lenB l n = true → l.length = n
  | [], n, h => by simp only [lenB] at h; exact (beq_nat h).symm
  | a :: l, n, h => by
    simp only [lenB, Bool.and_eq_true] at h
    have h1 := lenB_ok h.2
    have h2 : 0 < n := blt_lt h.1
    simp only [List.length_cons]
    omega

theorem allU_ok : ∀ {l : List AV}, allU l = true → ∀ i, i < l.length → ∃ n : Int, l[i]? = some (.int .u32 n) ∧ 0 ≤ n ∧ n ≤ 4294967295
  | [], _, i, h => by simp at h
  | a :: l, h, i, hi => by
    simp only [allU, Bool.and_eq_true] at h
    cases i with
    | zero =>
      have h1 := h.1
      unfold u32B at h1
      split at h1
      · simp only [Bool.and_eq_true, decide_eq_true_eq] at h1
        exact ⟨_, by simp, h1.1, h1.2⟩
      · cases h1
    | succ i =>
      obtain ⟨n, h1, h2⟩ := allU_ok h.2 i (by simp at hi; omega)
      exact ⟨n, by simpa using h1, h2⟩

/-- redress/sum's table: a new row of 256 numbers of 32 bits. -/
theorem table_calls (w : World) : Calls Tryz.prog 211 #[] w fun e w' => ∃ b c et fr, e = .returned (.pointer (some ⟨b, 0, none⟩)) ∧ w'.heap[b]? = some (.cells c et fr) ∧
    (∀ i, i < 256 → ∃ n : Int, c[i]? = some (.int .u32 n) ∧ 0 ≤ n ∧ n ≤ 4294967295) ∧ w'.os = w.os ∧ w'.tape = w.tape ∧ w'.output = w.output ∧ w.heap.size ≤ w'.heap.size ∧ ∀ k, k < w.heap.size → w'.heap[k]? = w.heap[k]? := by
  have hnt : Tryz.f211.ntmps = 24 := by kernel_rfl
  have hr : Tryz.f211.results.toList = [.tmp 0] := by kernel_rfl
  have h := tp211.mono (O' := fun j s => (∀ i, j ≠ .exit i) ∧ s.df = [] ∧ resA G2.D.at_ Tryz.f211.results.toList s = some (.ptr 0 0) ∧ ∃ et cs o fz sm, s.h.at_ 0 = some (.row et cs o true fz sm) ∧ allU cs = true ∧ lenB cs 256 = true) (by
    intro j s h
    unfold end211 at h
    cases j with
    | exit i => cases h
    | _ =>
      simp only [Bool.and_eq_true] at h
      obtain ⟨⟨⟨h1, h2⟩, h3⟩, h4⟩ := h
      refine ⟨fun i => by simp, ?_, ?_, ?_⟩
      · cases hd : s.df with
        | nil => rfl
        | cons _ _ => rw [hd] at h1; cases h1
      · rw [hr]
        split at h3
        · rename_i i o ha
          simp only [Bool.and_eq_true] at h3
          have e1 := beq_nat h3.1
          have e2 := beq_nat h3.2
          subst e1 e2
          simp [resA, resL, resV, ev, h2, ha]
        · cases h3
      · split at h4
        · rename_i et cs o fz sm ha
          simp only [Bool.and_eq_true] at h4
          exact ⟨et, cs, o, fz, sm, ha, h4.1, h4.2⟩
        · cases h4)
  rw [← hnt] at h
  refine (Tp.callsH (by omega) D2_ok Tryz.func211 body211 h (w := w) (argsV := #[]) (by simp [RepL])).mono ?_
  rintro e w' ⟨v, μ, s, rfl, hrep, hk, hh, et, cs, o, fz, sm, hat, hu, hl⟩
  simp only [Rep] at hrep
  obtain ⟨l, hl0, rfl⟩ := hrep
  obtain ⟨ob, ho, hb⟩ := hh.obj 0 _ l hat hl0
  obtain ⟨c, fr, rfl, h2, h3, h4, h5, h6, h7⟩ := hb
  have hb0 := h5 rfl
  refine ⟨l.blk, c, et, fr, by simp [hb0], ho, ?_, hk.os, hk.tape, hk.output, hk.size, hk.frame⟩
  intro i hi
  obtain ⟨n, hn, n1, n2⟩ := allU_ok hu i (by rw [lenB_ok hl]; exact hi)
  obtain ⟨v, hv, hr⟩ := h6 i _ hn
  simp only [Rep] at hr
  subst hr
  rw [hb0, Nat.zero_add] at hv
  exact ⟨n, hv, n1, n2⟩

end Go.Proofs.YtdkcihleblbkaaaGreatDoor.Eng
