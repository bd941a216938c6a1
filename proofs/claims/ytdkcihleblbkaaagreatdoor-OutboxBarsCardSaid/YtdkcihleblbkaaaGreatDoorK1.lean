/- A verified symbolic executor, part K1: a function that is run piece by piece from an empty heap: states may be weakened and split between the pieces. No project text. -/
import Derived.Test.YtdkcihleblbkaaaGreatDoorT5
namespace Go.Proofs.YtdkcihleblbkaaaGreatDoor.Eng
set_option linter.unusedVariables false
set_option linter.unusedSimpArgs false
set_option linter.unusedSectionVars false
open Go
set_option linter.unusedSectionVars false

/-- What a function that began with no known object keeps of the world of its start. -/
structure Keeps (w0 : World) (μ : Mu) (w : World) : Prop where
  os : w.os = w0.os
  tape : w.tape = w0.tape
  output : w.output = w0.output
  size : w0.heap.size ≤ w.heap.size
  frame : ∀ b, b < w0.heap.size → w.heap[b]? = w0.heap[b]?
  new : ∀ id l, μ id = some l → w0.heap.size ≤ l.blk

theorem Keeps.good {w0 : World} {μ μ' : Mu} {st st' : St} {w w' : World} (k : Keeps w0 μ w) (g : Good μ st w μ' st' w') : Keeps w0 μ' w' := by
  have hn : ∀ b, b < w0.heap.size → ¬ Wr μ st b := by
    rintro b hb ⟨id, l, _, _, h3, h4⟩
    have := k.new id l h3
    omega
  refine ⟨g.os.trans k.os, g.tape.trans k.tape, g.output.trans k.output, Nat.le_trans k.size g.size, ?_, ?_⟩
  · intro b hb
    rw [g.frame b (Nat.lt_of_lt_of_le hb k.size) (hn b hb)]
    exact k.frame b hb
  · intro id l h
    cases hm : μ id with
    | none =>
      rcases g.new id l h hm with h' | h'
      · exact Nat.le_trans k.size h'
      · by_cases hb : l.blk < w0.heap.size
        · exact absurd h' (hn _ hb)
        · omega
    | some l' =>
      have e := g.ext id l' hm
      rw [h] at e
      obtain rfl := Option.some.inj e
      exact k.new id l hm

abbrev Post1 := Jump → St → Prop

/-- What is said of a piece of the function's code from a state. -/
def Tp (P : Program) (q : Nat) (f : FuncId) (c : Code) (st : St) (O : Post1) : Prop :=
  ∀ w0 μ tmps df w, SRep q μ st tmps df w → Keeps w0 μ w → ∀ k cs, ∃ j st', O j st' ∧ ∃ μ' tmps' df' w', SRep q μ' st' tmps' df' w' ∧ Keeps w0 μ' w' ∧
    Arr P (lone (mk f none tmps df (.code c :: k)) cs w) f none k cs j tmps' df' w'

/-- A state stands for all that another stands for. -/
def Wk (q : Nat) (st st' : St) : Prop := ∀ μ tmps df w, SRep q μ st tmps df w → SRep q μ st' tmps df w

section rules
variable {P : Program} {q : Nat} {f : FuncId} {c : Code} {st : St} {O : Post1}

theorem Tp.of_code {o : Out} (h : CodeOk P q f none c st o) (hO : ∀ j s, (j, s) ∈ o → O j s) : Tp P q f c st O := by
  intro w0 μ tmps df w hs hk k cs
  obtain ⟨j, st', hm, μ', tmps', df', w', hs', hg, harr⟩ := h μ tmps df w hs k cs
  exact ⟨j, st', hO j st' hm, μ', tmps', df', w', hs', hk.good hg, harr⟩

theorem Tp.mono {O' : Post1} (h : Tp P q f c st O) (hO : ∀ j s, O j s → O' j s) : Tp P q f c st O' := by
  intro w0 μ tmps df w hs hk k cs
  obtain ⟨j, st', hm, r⟩ := h w0 μ tmps df w hs hk k cs
  exact ⟨j, st', hO j st' hm, r⟩

theorem Tp.weak {O' : Post1} (h : Tp P q f c st O) (hO : ∀ j s, O j s → ∃ s', Wk q s s' ∧ O' j s') : Tp P q f c st O' := by
  intro w0 μ tmps df w hs hk k cs
  obtain ⟨j, st', hm, μ', tmps', df', w', hs', hk', harr⟩ := h w0 μ tmps df w hs hk k cs
  obtain ⟨s', h1, h2⟩ := hO j st' hm
  exact ⟨j, s', h2, μ', tmps', df', w', h1 _ _ _ _ hs', hk', harr⟩

theorem Tp.from {st' : St} (h : Tp P q f c st' O) (hw : Wk q st st') : Tp P q f c st O :=
  fun w0 μ tmps df w hs hk k cs => h w0 μ tmps df w (hw _ _ _ _ hs) hk k cs

theorem Tp.split {s1 s2 : St} (hw : ∀ μ tmps df w, SRep q μ st tmps df w → SRep q μ s1 tmps df w ∨ SRep q μ s2 tmps df w) (h1 : Tp P q f c s1 O) (h2 : Tp P q f c s2 O) : Tp P q f c st O := by
  intro w0 μ tmps df w hs hk k cs
  rcases hw μ tmps df w hs with h | h
  · exact h1 w0 μ tmps df w h hk k cs
  · exact h2 w0 μ tmps df w h hk k cs

theorem Tp.seq {a b : Code} {O1 : Post1} (h1 : Tp P q f a st O1) (h2 : ∀ s, O1 .normal s → Tp P q f b s O) (h3 : ∀ j s, j ≠ .normal → O1 j s → O j s) : Tp P q f (.seq a b) st O := by
  intro w0 μ tmps df w hs hk k cs
  obtain ⟨j, st', hm, μ', tmps', df', w', hs', hk', harr⟩ := h1 w0 μ tmps df w hs hk (.code b :: k) cs
  by_cases hj : j = .normal
  · subst hj
    obtain ⟨j2, st2, hm2, μ2, tmps2, df2, w2, hs2, hk2, harr2⟩ := h2 st' hm w0 μ' tmps' df' w' hs' hk' k cs
    exact ⟨j2, st2, hm2, μ2, tmps2, df2, w2, hs2, hk2, .of_steps (.head st_seq harr) harr2⟩
  · exact ⟨j, st', h3 j st' hj hm, μ', tmps', df', w', hs', hk', .of_steps (.one st_seq) (.pass (x := .code b) (fun _ => rfl) hj harr)⟩

theorem Tp.block {id : Nat} {O1 : Post1} (h : Tp P q f c st O1) (hn : ∀ s, O1 .normal s → O .normal s) (he : ∀ s, O1 (.exit id) s → O .normal s) (hr : ∀ s, O1 .ret s → O .ret s)
    (ho : ∀ i s, i ≠ id → O1 (.exit i) s → O (.exit i) s) : Tp P q f (.block id c) st O := by
  intro w0 μ tmps df w hs hk k cs
  obtain ⟨j, st', hm, μ', tmps', df', w', hs', hg, harr⟩ := h w0 μ tmps df w hs hk (.inBlock id :: k) cs
  cases j with
  | normal => exact ⟨.normal, st', hn _ hm, μ', tmps', df', w', hs', hg, .head st_block (Steps.trans harr (.one st_inBlock))⟩
  | ret => exact ⟨.ret, st', hr _ hm, μ', tmps', df', w', hs', hg, .of_steps (.one st_block) harr⟩
  | exit i =>
    obtain ⟨k0, hk0, hst⟩ := harr
    by_cases hi : i = id
    · refine ⟨.normal, st', he _ (hi ▸ hm), μ', tmps', df', w', hs', hg, .head st_block (hst.trans (.one (st_exit ?_)))⟩
      rw [hk0]; simp [exitTo, hi]
    · refine ⟨.exit i, st', ho i _ hi hm, μ', tmps', df', w', hs', hg, .of_steps (.one st_block) ⟨k0, ?_, hst⟩⟩
      rw [hk0]
      have : (id == i) = false := by simp; exact fun h => hi h.symm
      simp [exitTo, this]

theorem Tp.loop_aux {S : Nat → St} (N : Nat) (hr : ∀ k, k ≤ N → Tp P q f c (S k) fun j s => (j = .normal ∧ k < N ∧ s = S (k + 1)) ∨ (j ≠ .normal ∧ O j s)) :
    ∀ (d k : Nat), k + d = N → ∀ w0 μ tmps df w, SRep q μ (S k) tmps df w → Keeps w0 μ w → ∀ k' cs, ∃ j st', (j ≠ .normal ∧ O j st') ∧ ∃ μ' tmps' df' w', SRep q μ' st' tmps' df' w' ∧ Keeps w0 μ' w' ∧
      Arr P (lone (mk f none tmps df (.code c :: .inLoop c :: k')) cs w) f none k' cs j tmps' df' w' := by
  intro d
  induction d with
  | zero =>
    intro k hkd w0 μ tmps df w hs hk k' cs
    obtain ⟨j, st', hm, μ', tmps', df', w', hs', hg, harr⟩ := hr k (by omega) w0 μ tmps df w hs hk (.inLoop c :: k') cs
    rcases hm with ⟨_, h, _⟩ | hm
    · omega
    · exact ⟨j, st', hm, μ', tmps', df', w', hs', hg, .pass (x := .inLoop c) (fun _ => rfl) hm.1 harr⟩
  | succ d ih =>
    intro k hkd w0 μ tmps df w hs hk k' cs
    obtain ⟨j, st', hm, μ', tmps', df', w', hs', hg, harr⟩ := hr k (by omega) w0 μ tmps df w hs hk (.inLoop c :: k') cs
    rcases hm with ⟨rfl, h, rfl⟩ | hm
    · obtain ⟨j2, st2, hm2, μ2, tmps2, df2, w2, hs2, hg2, harr2⟩ := ih (k + 1) (by omega) w0 μ' tmps' df' w' hs' hg k' cs
      exact ⟨j2, st2, hm2, μ2, tmps2, df2, w2, hs2, hg2, .of_steps (Steps.trans harr (.one st_inLoop)) harr2⟩
    · exact ⟨j, st', hm, μ', tmps', df', w', hs', hg, .pass (x := .inLoop c) (fun _ => rfl) hm.1 harr⟩

theorem Tp.loop {S : Nat → St} (N : Nat) (hr : ∀ k, k ≤ N → Tp P q f c (S k) fun j s => (j = .normal ∧ k < N ∧ s = S (k + 1)) ∨ (j ≠ .normal ∧ O j s)) : Tp P q f (.loop c) (S 0) fun j s => j ≠ .normal ∧ O j s := by
  intro w0 μ tmps df w hs hk k cs
  obtain ⟨j, st', hm, μ', tmps', df', w', hs', hg, harr⟩ := Tp.loop_aux N hr N 0 (by omega) w0 μ tmps df w hs hk k cs
  exact ⟨j, st', hm, μ', tmps', df', w', hs', hg, .of_steps (.one st_loop) harr⟩

end rules

/-! ### the same of code made ready -/
def TpC (P : Program) (q : Nat) (f : FuncId) (D : Ty) (ext : FuncId → Nat) (C : CC) (st : St) (O : Post1) : Prop := ∀ c, comp D ext c = C → Tp P q f c st O

section ready
variable {P : Program} {q : Nat} {f : FuncId} {D : Ty} {ext : FuncId → Nat} {st : St} {O : Post1}

theorem TpC.seq {A B : CC} {O1 : Post1} (h1 : TpC P q f D ext A st O1) (h2 : ∀ s, O1 .normal s → TpC P q f D ext B s O) (h3 : ∀ j s, j ≠ .normal → O1 j s → O j s) : TpC P q f D ext (.seq A B) st O := by
  intro c hc
  cases c with
  | seq a b => simp only [comp, CC.seq.injEq] at hc; exact .seq (h1 a hc.1) (fun s hs => h2 s hs b hc.2) h3
  | region i ops d =>
    cases d with
    | false => simp [comp] at hc
    | true => simp only [comp, cond_true] at hc; split at hc <;> cases hc
  | _ => simp [comp] at hc

theorem TpC.block {id : Nat} {A : CC} {O1 : Post1} (h : TpC P q f D ext A st O1) (hn : ∀ s, O1 .normal s → O .normal s) (he : ∀ s, O1 (.exit id) s → O .normal s) (hr : ∀ s, O1 .ret s → O .ret s)
    (ho : ∀ i s, i ≠ id → O1 (.exit i) s → O (.exit i) s) : TpC P q f D ext (.block id A) st O := by
  intro c hc
  cases c with
  | block i a => simp only [comp, CC.block.injEq] at hc; obtain ⟨rfl, h2⟩ := hc; exact .block (h a h2) hn he hr ho
  | region i ops d =>
    cases d with
    | false => simp [comp] at hc
    | true => simp only [comp, cond_true] at hc; split at hc <;> cases hc
  | _ => simp [comp] at hc

theorem TpC.loop {A : CC} {S : Nat → St} (N : Nat) (h : ∀ k, k ≤ N → TpC P q f D ext A (S k) fun j s => (j = .normal ∧ k < N ∧ s = S (k + 1)) ∨ (j ≠ .normal ∧ O j s)) : TpC P q f D ext (.loop A) (S 0) fun j s => j ≠ .normal ∧ O j s := by
  intro c hc
  cases c with
  | loop a => simp only [comp, CC.loop.injEq] at hc; exact .loop N fun k hk => h k hk a hc
  | region i ops d =>
    cases d with
    | false => simp [comp] at hc
    | true => simp only [comp, cond_true] at hc; split at hc <;> cases hc
  | _ => simp [comp] at hc

theorem TpC.mono {C : CC} {O' : Post1} (h : TpC P q f D ext C st O) (hO : ∀ j s, O j s → O' j s) : TpC P q f D ext C st O' := fun c hc => (h c hc).mono hO
theorem TpC.weak {C : CC} {O' : Post1} (h : TpC P q f D ext C st O) (hO : ∀ j s, O j s → ∃ s', Wk q s s' ∧ O' j s') : TpC P q f D ext C st O' := fun c hc => (h c hc).weak hO
theorem TpC.from {C : CC} {st' : St} (h : TpC P q f D ext C st' O) (hw : Wk q st st') : TpC P q f D ext C st O := fun c hc => (h c hc).from hw
theorem TpC.split {C : CC} {s1 s2 : St} (hw : ∀ μ tmps df w, SRep q μ st tmps df w → SRep q μ s1 tmps df w ∨ SRep q μ s2 tmps df w) (h1 : TpC P q f D ext C s1 O) (h2 : TpC P q f D ext C s2 O) : TpC P q f D ext C st O := fun c hc => (h1 c hc).split hw (h2 c hc)
end ready

/-- A run of the executor is such a saying. -/
theorem TpC.run {P : Program} {g : Tb} (hg : TbOk P g) {q : Nat} (hq : q < 8) {FC : T CF} (hFC : ∀ k, FC.at_ k = (g.F.at_ k).bind (compF g.D.at_ g.ext)) {d : Nat} {f : FuncId} {C : CC} {st : St} {o : Out} {O : Post1}
    (h : execC (g.xC (g.bothC FC d).1 (g.bothC FC d).2 f) C st = some o) (hO : ∀ j s, (j, s) ∈ o → O j s) : TpC P q f g.D.at_ g.ext C st O := by
  intro c hc
  subst hc
  rw [bothC_eq g FC hFC d] at h
  have hD : atF g.D = g.D.at_ := by funext i; exact atF_eq _ _
  have hx := execC_eq (x := g.x (g.both d).1 (g.both d).2 f) (y := g.xC (g.both d).1 (g.both d).2 f) (by simp only [Tb.x, Tb.xC, Tb.cxC, Tb.cx, hD]) (by simp only [Tb.x, Tb.xC, Tb.cxC, Tb.cx, hD]) rfl rfl c st
  have hcx : (g.xC (g.both d).1 (g.both d).2 f).cx.D = g.D.at_ := hD
  rw [hcx] at hx
  have hcx2 : (g.xC (g.both d).1 (g.both d).2 f).cx.ext = g.ext := rfl
  rw [hcx2, h] at hx
  obtain ⟨i1, i2, i3⟩ := both_ok hg hq d
  have hop : OpOk P q (opA (g.cx (g.both d).1 (g.both d).2)) := opA_ok hq hg.D hg.ext i1 (fun k args st rets _ h => i2 k args st rets h) i3
  have hhp : OpOk P q (heapA (g.cx (g.both d).1 (g.both d).2)) := heapA_ok hq hg.D hg.ext i1 (fun k args st rets _ h => i2 k args st rets h) i3
  have hX : XOk P q f none (g.x (g.both d).1 (g.both d).2 f) :=
    ⟨hop, fun ops st ss h id => drawn_ok hg.drawn (pureA_prok hg.D hq) hhp (pureA_cong _) (fun st => heapA_cong _ st) h f none id, fun gg ps asg body st o h => rng_ok i1 i2 h⟩
  exact .of_code (exec_ok hX c st o hx.symm) hO

/-! ### the whole function -/
theorem mu_none_rep {q : Nat} {w : World} : HRep q (fun _ => none) .leaf w := ⟨fun id b l _ h => by simp at h, fun id id' l l' _ _ h => by simp at h⟩

/-- A function that is told by its code, from an empty heap. -/
theorem Tp.calls {P : Program} {q : Nat} (hq : q < 8) {D : Ty} (hD : DOk P D) {k : FuncId} {fn : Func} {c : Code} (hfn : P.funcs[k]? = some fn) (hbody : fn.body = some c) {args : List AV} {a : AV}
    (h : Tp P q k c (entrySt args fn.ntmps st0) fun j s => (∀ i, j ≠ .exit i) ∧ s.df = [] ∧ resA D fn.results.toList s = some a) {w : World} {argsV : Array Value} (ha : RepL q (fun _ => none) args argsV.toList) :
    Calls P k argsV w fun e w' => ∃ v μ, e = .returned v ∧ Rep q μ a v ∧ Keeps w μ w' := by
  intro cs
  have henter : Frame.enter P k argsV .normal = mk k none (argsV ++ Array.replicate (fn.ntmps - argsV.size) undef) [] [.code c] := by
    simp [Frame.enter, mk, hfn, hbody]
  have hent := entry_rep (q := q) (st := st0) (nt := fn.ntmps) (w := w) (mu_none_rep (q := q)) (fun _ _ => rfl) ha
  obtain ⟨j, s1, ⟨hj, hdf, hres⟩, μ', tmps', df', w', hs', hk', harr⟩ := h w _ _ _ w hent ⟨rfl, rfl, rfl, Nat.le_refl _, fun _ _ => rfl, fun _ _ h => by simp at h⟩ [] cs
  rw [← henter] at harr
  have hdf' : df' = [] := by
    have := hs'.dfr
    rw [hdf] at this
    cases df' with
    | nil => rfl
    | cons _ _ => simp [DefR] at this
  subst hdf'
  have hret : ∃ todo, Steps P (lone (Frame.enter P k argsV .normal) cs w) (lone { mk k none tmps' [] todo with mode := .returning } cs w') := by
    cases j with
    | normal => exact ⟨[], Steps.trans harr (.one st_leave_end)⟩
    | exit id => exact absurd rfl (hj id)
    | ret => obtain ⟨k0, h0⟩ := harr; exact ⟨_, Steps.trans h0 (.one st_leave_ret)⟩
  obtain ⟨todo, hst⟩ := hret
  obtain ⟨v, hrun, hrep⟩ := resA_ok hD hq fn s1 a hres μ' tmps' w' hs'.size hs'.tmp hs'.heap
  exact ⟨.returned v, w', { mk k none tmps' [] todo with mode := .returning }, ⟨v, μ', rfl, hrep, hk'⟩, hst, rfl, rfl, rfl, rfl, fn, hfn, hrun⟩

end Go.Proofs.YtdkcihleblbkaaaGreatDoor.Eng
