/- A VERIFIED SYMBOLIC EXECUTOR, PARTS 18 TO 25. Lemmas that hold of every program. -/
import Derived.Test.YtdkcihleblbkaaaGreatDoorEb
import Derived.Laws.Cells
/- A verified symbolic executor, part 18: reading cells; a function's results; new objects. The lemmas hold of every program; no project text. -/
namespace Go.Proofs.YtdkcihleblbkaaaGreatDoor.Eng
set_option linter.unusedVariables false
set_option linter.unusedSimpArgs false
set_option linter.unusedSectionVars false
open Go

/-- what a row of the abstract heap says of the world -/
theorem row_out {q : Nat} {μ : Mu} {h : T ABlk} {w : World} (hr : HRep q μ h w) {id : Nat} {et : TypeId} {cells : List AV} {opn b0 : Bool} {fz : Nat} {sm : Bool} (hat : h.at_ id = some (.row et cells opn b0 fz sm)) {l0 : Loc} (hl0 : μ id = some l0) :
    ∃ (l : Loc) (c : Array Value) (fr : Nat × Nat), μ id = some l ∧ w.heap[l.blk]? = some (.cells c et fr) ∧ c.size = l.base + l.tot ∧ cells.length ≤ l.tot ∧ (opn = false → l.tot = cells.length) ∧ (b0 = true → l.base = 0) ∧ RowR q μ c l.base cells ∧
      (∀ i, fz ≤ i → i < l.tot → ¬ (fr.1 ≤ l.base + i ∧ l.base + i < fr.2)) ∧ (sm = false → ¬ (fr.1 ≤ c.size ∧ c.size < fr.2) ∧ (fr.1 = fr.2 ∨ fr.2 ≤ l.base + fz)) := by
  obtain ⟨o, h2, h3⟩ := hr.obj id _ _ hat hl0
  obtain ⟨c, fr, rfl, k1, k2, k3, k4, k5, k6, k7⟩ := h3
  exact ⟨l0, c, fr, hl0, h2, k1, k2, k3, k4, k5, k6, k7⟩

theorem cell_of {w : World} {b : Nat} {c : Array Value} {et : TypeId} {fr : Nat × Nat} (h : w.heap[b]? = some (.cells c et fr)) (i : Nat) : w.cell? ⟨b, i, none⟩ = c[i]? := by
  simp [World.cell?, h]

/-- cells that are read one behind the other -/
theorem cells_read {P : Program} {q : Nat} {μ : Mu} {w : World} {b : Nat} {c : Array Value} {et : TypeId} {fr : Nat × Nat} (hh : w.heap[b]? = some (.cells c et fr)) {base off n : Nat} {cells l : List AV} (hrow : RowR q μ c base cells) (hcut : cut cells off n = some l) :
    ∃ vs : List Value, (loadCells ⟨b, base + off, none⟩ n).run P w = .ok vs.toArray w ∧ RepL q μ l vs ∧ vs.length = n ∧ ∀ j v, vs[j]? = some v → c[base + off + j]? = some v := by
  have hgen : ∀ (n : Nat) (off : Nat) (l : List AV), cut cells off n = some l → ∃ vs : List Value, RepL q μ l vs ∧ vs.length = n ∧ ∀ j v, vs[j]? = some v → c[base + off + j]? = some v := by
    intro n
    induction n with
    | zero =>
      intro off l hc
      simp only [cut, takeN, Option.some.injEq] at hc
      subst hc
      exact ⟨[], by simp [RepL], rfl, by simp⟩
    | succ n ih =>
      intro off l hc
      unfold cut at hc
      cases hd : cells.drop off with
      | nil => simp [hd, takeN] at hc
      | cons a t =>
        simp only [hd, takeN] at hc
        have ht : cells.drop (off + 1) = t := by
          have := congrArg (List.drop 1) hd
          simpa [List.drop_drop] using this
        have ha : cells[off]? = some a := by
          have : (cells.drop off)[0]? = some a := by rw [hd]; rfl
          rw [List.getElem?_drop] at this
          simpa using this
        split at hc
        · rename_i r hr
          simp only [Option.some.injEq] at hc
          subst hc
          obtain ⟨vs, v1, v2, v3⟩ := ih (off + 1) r (by unfold cut; rw [ht]; exact hr)
          obtain ⟨v, hv, hrep⟩ := hrow off a ha
          refine ⟨v :: vs, by simp only [RepL]; exact ⟨hrep, v1⟩, by simp [v2], fun j x hx => ?_⟩
          cases j with
          | zero => simp at hx; subst hx; simpa using hv
          | succ j =>
            have := v3 j x (by simpa using hx)
            rw [show base + off + (j + 1) = base + (off + 1) + j from by omega]
            exact this
        · cases hc
  obtain ⟨vs, h1, h2, h3⟩ := hgen n off l hcut
  refine ⟨vs, ?_, h1, h2, h3⟩
  have := run_loadCells_list (P := P) w ⟨b, base + off, none⟩ vs (fun j v hv => by rw [addr_add, cell_of hh]; exact h3 j v hv)
  rw [h2] at this
  exact this

theorem loadA_ok {P : Program} {D : Ty} (hD : DOk P D) {q : Nat} (hq : q < 8) {μ : Mu} {st : St} {w : World} (hr : HRep q μ st.h w) {t : TypeId} {a r : AV} {va : Value} (h : loadA D st t a = some r) (ha : Rep q μ a va) :
    ∃ ad v, va = .pointer (some ad) ∧ (loadVar t ad).run P w = .ok v w ∧ Rep q μ r v := by
  unfold loadA at h
  split at h
  · rename_i ti id off ht
    simp only [Rep] at ha
    obtain ⟨l, hl, rfl⟩ := ha
    split at h
    · rename_i et cells opn b0 fz sm hat
      obtain ⟨l', c, fr, k0, k1, k2, k3, k4, k5, k6, _⟩ := row_out hr hat hl
      rw [hl] at k0
      obtain rfl := Option.some.inj k0
      have hagg := run_agg hD w ht
      cases hc : ti.cls.agg with
      | true =>
        simp only [hc, cond_true] at h
        split at h
        · rename_i ls hcut
          simp only [Option.some.injEq] at h; subst h
          obtain ⟨vs, v1, v2, v3, _⟩ := cells_read (P := P) k1 k6 hcut
          rw [hc] at hagg
          refine ⟨_, .agg vs.toArray, rfl, ?_, by simp only [Rep]; exact ⟨_, rfl, by simpa using v2⟩⟩
          simp [loadVar, hagg, run_size hD w ht, v1]
        · cases h
      | false =>
        simp only [hc, cond_false] at h
        rw [hc] at hagg
        obtain ⟨v, hv, hrep⟩ := k6 off r h
        refine ⟨_, v, rfl, ?_, hrep⟩
        simp [loadVar, hagg, cell_of k1, hv]
    · cases h
  · rename_i ti id off ht
    simp only [Rep] at ha
    obtain ⟨l, hl, rfl⟩ := ha
    split at h
    · rename_i et cells opn b0 fz sm hat
      obtain ⟨l', c, fr, k0, k1, k2, k3, k4, k5, k6, _⟩ := row_out hr hat hl
      rw [hl] at k0
      obtain rfl := Option.some.inj k0
      cases hc : ti.cls.agg with
      | true => simp [hc] at h
      | false =>
        simp only [hc, cond_false] at h
        have hagg := run_agg hD w ht
        rw [hc] at hagg
        obtain ⟨v, h1, h2⟩ := (sameQ_ok (q := q) (μ := μ) h).2 (c.toList.drop (l.base + off)) (fun i a ha => by
          rw [List.getElem?_drop] at ha ⊢
          obtain ⟨v, e1, e2⟩ := k6 (off + i) a ha
          exact ⟨v, by rw [Array.getElem?_toList, Nat.add_assoc]; exact e1, e2⟩) q hq (by omega)
        rw [List.getElem?_drop, Array.getElem?_toList] at h1
        refine ⟨_, v, rfl, ?_, h2⟩
        simp [loadVar, hagg, cell_of k1, h1]
    · cases h
  · cases h

/-! ### a function's results -/
theorem resL_ok {P : Program} {D : Ty} (hD : DOk P D) {q : Nat} (hq : q < 8) {μ : Mu} {st : St} {tmps : Array Value} {w : World} (hs : tmps.size = st.n) (ht : TmpR q μ st.tm tmps) (hr : HRep q μ st.h w) : ∀ {rs : List ResultVar} {as : List AV}, resL D st rs = some as →
    ∃ vs : List Value, (rs.mapM (m := Sem) fun
      | .tmp t => pure (tmps.getD t undef)
      | .cell a t => do loadVar t (← asAddr (tmps.getD a undef))).run P w = .ok vs w ∧ RepL q μ as vs
  | [], as, h => by
    simp only [resL, Option.some.injEq] at h; subst h
    exact ⟨[], by simp, by simp [RepL]⟩
  | r :: rs, as, h => by
    simp only [resL] at h
    split at h
    · rename_i a as' h1 h2
      simp only [Option.some.injEq] at h; subst h
      obtain ⟨vs, e1, e2⟩ := resL_ok hD hq hs ht hr h2
      have hv : ∃ v, (match r with
          | .tmp t => (pure (tmps.getD t undef) : Sem Value)
          | .cell a t => do loadVar t (← asAddr (tmps.getD a undef))).run P w = .ok v w ∧ Rep q μ a v := by
        cases r with
        | tmp t => exact ⟨_, rfl, ev_tmp hs ht h1⟩
        | cell c t =>
          simp only [resV] at h1
          split at h1
          · rename_i x hx
            obtain ⟨ad, v, e3, e4, e5⟩ := loadA_ok hD hq hr h1 (ev_tmp hs ht hx)
            exact ⟨v, by simp [e3, asAddr, e4], e5⟩
          · cases h1
      obtain ⟨v, e3, e4⟩ := hv
      refine ⟨v :: vs, ?_, by simp only [RepL]; exact ⟨e4, e2⟩⟩
      rw [List.mapM_cons]
      simp only [Sem.run_bind, e3, Result.andThen_ok, e1, Sem.run_pure]
    · cases h

theorem resA_ok {P : Program} {D : Ty} (hD : DOk P D) {q : Nat} (hq : q < 8) : ResOk P q (resA D) := by
  intro fn st a h μ tmps w hs ht hr
  unfold resA at h
  cases hl : resL D st fn.results.toList with
  | none => simp [hl] at h
  | some as =>
    obtain ⟨vs, e1, e2⟩ := resL_ok (P := P) hD hq hs ht hr hl
    have hrun : (results fn tmps).run P w = .ok (if h : vs.toArray.size = 1 then vs.toArray[0] else .tuple vs.toArray) w := by
      unfold results
      rw [Sem.run_bind, Array.mapM_eq_mapM_toList]
      simp only [Sem.run_map, Sem.run_pure]
      have := congrArg (fun r : Result (List Value) => (r.andThen fun a w' => Result.ok a.toArray w').andThen fun a w' => Result.ok (if h : a.size = 1 then a[0] else Value.tuple a) w') e1
      exact this
    rw [hl] at h
    cases vs with
    | nil =>
      cases as with
      | nil =>
        simp only [Option.some.injEq] at h; subst h
        exact ⟨_, hrun, by simp [Rep, RepL]⟩
      | cons _ _ => simp [RepL] at e2
    | cons v vs =>
      cases as with
      | nil => simp [RepL] at e2
      | cons a' as =>
        simp only [RepL] at e2
        cases vs with
        | nil =>
          cases as with
          | nil =>
            simp only [Option.some.injEq] at h; subst h
            exact ⟨_, hrun, by simpa using e2.1⟩
          | cons _ _ => simp [RepL] at e2
        | cons v2 vs =>
          cases as with
          | nil => simp [RepL] at e2
          | cons a2 as =>
            simp only [Option.some.injEq] at h; subst h
            exact ⟨_, hrun, by simp only [Rep]; exact ⟨(v :: v2 :: vs).toArray, by rw [dif_neg (by simp)], by simp only [RepL]; exact e2⟩⟩

end Go.Proofs.YtdkcihleblbkaaaGreatDoor.Eng

/- A verified symbolic executor, part 19: writing cells. The lemmas hold of every program; no project text. -/
namespace Go.Proofs.YtdkcihleblbkaaaGreatDoor.Eng
set_option linter.unusedVariables false
set_option linter.unusedSimpArgs false
set_option linter.unusedSectionVars false
open Go

theorem oc_ok {q : Nat} {μ : Mu} : ∀ (a : AV) (v : Value), a.oc = true → Rep q μ a v → v.oneCell' = true
  | .any, _, h, _ => by simp [AV.oc] at h
  | .agg _, _, h, _ => by simp [AV.oc] at h
  | .tup _, _, h, _ => by simp [AV.oc] at h
  | .bool _, v, _, r => by simp only [Rep] at r; subst r; rfl
  | .ubool, v, _, r => by simp only [Rep] at r; obtain ⟨_, rfl⟩ := r; rfl
  | .int _ _, v, _, r => by simp only [Rep] at r; subst r; rfl
  | .aint _ _ _, v, _, r => by simp only [Rep] at r; obtain ⟨_, rfl, _⟩ := r; rfl
  | .intq _ _, v, _, r => by simp only [Rep] at r; subst r; rfl
  | .str _, v, _, r => by simp only [Rep] at r; obtain ⟨_, rfl, _⟩ := r; rfl
  | .astr _ _, v, _, r => by simp only [Rep] at r; obtain ⟨_, rfl, _⟩ := r; rfl
  | .ptr0, v, _, r => by simp only [Rep] at r; subst r; rfl
  | .ptr _ _, v, _, r => by simp only [Rep] at r; obtain ⟨_, _, rfl⟩ := r; rfl
  | .sl0, v, _, r => by simp only [Rep] at r; subst r; rfl
  | .sl _ _ _ _ _, v, _, r => by simp only [Rep] at r; obtain ⟨_, _, _, rfl, _⟩ := r; rfl
  | .map0, v, _, r => by simp only [Rep] at r; subst r; rfl
  | .map _, v, _, r => by simp only [Rep] at r; obtain ⟨_, _, rfl⟩ := r; rfl
  | .fn _ _ _, v, _, r => by simp only [Rep] at r; obtain ⟨_, _, rfl, _⟩ := r; rfl
  | .yld _, v, _, r => by simp only [Rep] at r; obtain ⟨_, _, rfl⟩ := r; rfl
  | .fn0, v, _, r => by simp only [Rep] at r; subst r; rfl
  | .ifc _ _, v, _, r => by simp only [Rep] at r; obtain ⟨_, rfl, _⟩ := r; rfl
  | .ifc0, v, _, r => by simp only [Rep] at r; subst r; rfl
  | .ptrq _ _, v, _, r => by simp only [Rep] at r; obtain ⟨_, _, rfl⟩ := r; rfl
  | .ifq j a b, v, h, r => by
    simp only [AV.oc, Bool.and_eq_true] at h
    simp only [Rep] at r
    by_cases e : q = j
    · exact oc_ok a v h.1 (r.1 e)
    · exact oc_ok b v h.2 (r.2 e)

theorem allOc_ok {q : Nat} {μ : Mu} : ∀ {l : List AV} {vs : List Value}, allOc l = true → RepL q μ l vs → ∀ v ∈ vs, v.oneCell' = true
  | [], [], _, _ => by simp
  | a :: l, v :: vs, h, r => by
    simp only [allOc, Bool.and_eq_true] at h
    simp only [RepL] at r
    intro x hx
    rcases List.mem_cons.1 hx with rfl | hx
    · exact oc_ok a _ h.1 r.1
    · exact allOc_ok h.2 r.2 x hx
  | [], _ :: _, _, r => by simp [RepL] at r
  | _ :: _, [], _, r => by simp [RepL] at r

theorem setCell_row {w : World} {b i : Nat} {c : Array Value} {et : TypeId} {fr : Nat × Nat} (h : w.heap[b]? = some (.cells c et fr)) (v : Value) :
    w.setCell ⟨b, i, none⟩ v = { w with heap := w.heap.setIfInBounds b (.cells (c.setIfInBounds i v) et fr) } := by
  unfold World.setCell
  congr 1
  have hb := (Array.getElem?_eq_some_iff.1 h).1
  have hv := (Array.getElem?_eq_some_iff.1 h).2
  apply Array.ext_getElem?
  intro k
  simp only [Array.getElem?_modify, Array.getElem?_setIfInBounds, Option.isSome_none, Bool.false_eq_true, if_false]
  by_cases e : b = k
  · subst e
    rw [if_pos rfl, if_pos rfl, if_pos hb, h]
    rfl
  · rw [if_neg e, if_neg e]

theorem run_store_row {P : Program} {w : World} {b i : Nat} {c : Array Value} {et : TypeId} {fr : Nat × Nat} (h : w.heap[b]? = some (.cells c et fr)) (hi : i < c.size) (hf : ¬ (fr.1 ≤ i ∧ i < fr.2)) {v : Value} (hv : v.oneCell' = true) :
    (store ⟨b, i, none⟩ v).run P w = .ok () { w with heap := w.heap.setIfInBounds b (.cells (c.setIfInBounds i v) et fr) } := by
  rw [run_store P w _ v .plain hv, cell_of h, Array.getElem?_eq_getElem hi]
  have hfz : w.frozen? ⟨b, i, none⟩ = false := by
    simp only [World.frozen?, h]
    have : ¬ (fr.1 ≤ i ∧ i < fr.2) := hf
    simp only [Bool.and_eq_false_iff, decide_eq_false_iff_not]
    omega
  simp only [hfz, Bool.false_eq_true, if_false, setCell_row h]

theorem run_storeCells_row {P : Program} {b o : Nat} {et : TypeId} {fr : Nat × Nat} : ∀ (vs : List Value) (i : Nat) (c : Array Value) (w : World), w.heap[b]? = some (.cells c et fr) → o + i + vs.length ≤ c.size → (∀ v ∈ vs, v.oneCell' = true) →
    (∀ j, i ≤ j → j < i + vs.length → ¬ (fr.1 ≤ o + j ∧ o + j < fr.2)) →
    ∃ c' : Array Value, (storeCells ⟨b, o, none⟩ vs i).run P w = .ok () { w with heap := w.heap.setIfInBounds b (.cells c' et fr) } ∧ c'.size = c.size ∧ ∀ k, c'[k]? = if o + i ≤ k ∧ k < o + i + vs.length then vs[k - (o + i)]? else c[k]?
  | [], i, c, w, h, _, _, _ => by
    refine ⟨c, ?_, rfl, fun k => by rw [if_neg (by simp)]⟩
    have hb := (Array.getElem?_eq_some_iff.1 h).1
    have : w.heap.setIfInBounds b (.cells c et fr) = w.heap := by
      apply Array.ext_getElem?
      intro k
      rw [Array.getElem?_setIfInBounds]
      by_cases e : b = k
      · subst e; rw [if_pos rfl, if_pos hb, h]
      · rw [if_neg e]
    rw [this]
    rfl
  | v :: vs, i, c, w, h, hl, ho, hf => by
    simp only [List.length_cons] at hl hf
    have hb := (Array.getElem?_eq_some_iff.1 h).1
    have h1 := run_store_row (P := P) (i := o + i) h (by omega) (hf i (by omega) (by omega)) (ho v (by simp))
    have h2 : ({ w with heap := w.heap.setIfInBounds b (.cells (c.setIfInBounds (o + i) v) et fr) } : World).heap[b]? = some (.cells (c.setIfInBounds (o + i) v) et fr) := by simp [hb]
    obtain ⟨c', e1, e2, e3⟩ := run_storeCells_row vs (i + 1) _ _ h2 (by simp; omega) (fun x hx => ho x (by simp [hx])) (fun j hj1 hj2 => hf j (by omega) (by omega))
    refine ⟨c', ?_, by simpa using e2, fun k => ?_⟩
    · show ((store ((⟨b, o, none⟩ : Addr).add i) v) >>= fun _ => storeCells ⟨b, o, none⟩ vs (i + 1)).run P w = _
      rw [Sem.run_bind, addr_add, h1, Result.andThen_ok, e1]
      congr 2
      apply Array.ext_getElem?
      intro k
      simp only [Array.getElem?_setIfInBounds]
      by_cases e : b = k
      · subst e; simp [hb]
      · simp [e]
    · rw [e3 k]
      by_cases hk : k = o + i
      · subst hk
        rw [if_neg (by omega), if_pos (by simp)]
        simp only [Nat.sub_self, List.getElem?_cons_zero]
        rw [Array.getElem?_setIfInBounds_self_of_lt (by omega)]
      · by_cases e : o + (i + 1) ≤ k ∧ k < o + (i + 1) + vs.length
        · rw [if_pos e, if_pos (by simp; omega)]
          have : k - (o + i) = (k - (o + (i + 1))) + 1 := by omega
          rw [this, List.getElem?_cons_succ]
        · rw [if_neg e, if_neg (by simp; omega), Array.getElem?_setIfInBounds_ne (fun h => hk h.symm)]

/-- A part of a row is written over. -/
theorem write_ok {P : Program} {q : Nat} {μ : Mu} {st : St} {w : World} (hr : HRep q μ st.h w) {id : Nat} {et : TypeId} {cells cells' vsA : List AV} {opn b0 : Bool} {fz : Nat} {sm : Bool} (hat : st.h.at_ id = some (.row et cells opn b0 fz sm)) (hw : st.canW id = true) {l : Loc} (hl : μ id = some l)
    {off : Nat} (hov : over cells off vsA = some cells') (hfz : fz ≤ off) (hoc : allOc vsA = true) {vs : List Value} (hv : RepL q μ vsA vs) :
    ∃ w', (storeCells ⟨l.blk, l.base + off, none⟩ vs).run P w = .ok () w' ∧ Good μ st w μ (st.turn id (.row et cells' opn b0 fz sm)) w' ∧ HRep q μ (st.turn id (.row et cells' opn b0 fz sm)).h w' := by
  obtain ⟨l', c, fr, k0, k1, k2, k3, k4, k5, k6, k7, k8⟩ := row_out hr hat hl
  rw [hl] at k0
  obtain rfl := Option.some.inj k0
  obtain ⟨o1, o2, o3⟩ := over_get hov
  have hlen := hv.length
  obtain ⟨c', e1, e2, e3⟩ := run_storeCells_row (P := P) (b := l.blk) (o := l.base + off) vs 0 c w k1 (by omega) (allOc_ok hoc hv) (fun j _ hj => by
    have := k7 (off + j) (by omega) (by omega)
    rw [show l.base + off + j = l.base + (off + j) from by omega]
    exact this)
  have hb := (Array.getElem?_eq_some_iff.1 k1).1
  refine ⟨_, e1, ?_⟩
  refine turn_ok (o := .cells c' et fr) hr (by rw [hat]; simp) hw hl ?_ rfl rfl rfl (by simp) (by simp [hb]) (fun k hk => Array.getElem?_setIfInBounds_ne (fun e => hk e.symm))
  refine ⟨c', fr, rfl, by rw [e2]; exact k2, by rw [o1]; exact k3, fun h => by rw [o1]; exact k4 h, k5, fun i a ha => ?_, k7, by rw [e2]; exact k8⟩
  rw [o3 i] at ha
  rw [e3 (l.base + i)]
  by_cases e : off ≤ i ∧ i < off + vsA.length
  · rw [if_pos e] at ha
    obtain ⟨v, h1, h2⟩ := hv.get _ a ha
    refine ⟨v, ?_, h2⟩
    rw [if_pos (by omega)]
    rw [show l.base + i - (l.base + off + 0) = i - off from by omega]
    exact h1
  · rw [if_neg e] at ha
    obtain ⟨v, h1, h2⟩ := k6 i a ha
    exact ⟨v, by rw [if_neg (by omega)]; exact h1, h2⟩

end Go.Proofs.YtdkcihleblbkaaaGreatDoor.Eng

/- A verified symbolic executor, part 20: new rows; allocation, storing. The lemmas hold of every program; no project text. -/
namespace Go.Proofs.YtdkcihleblbkaaaGreatDoor.Eng
set_option linter.unusedVariables false
set_option linter.unusedSimpArgs false
set_option linter.unusedSectionVars false
open Go

theorem RowR.of_repL {q : Nat} {μ : Mu} {l : List AV} {c : Array Value} (h : RepL q μ l c.toList) : RowR q μ c 0 l := by
  intro i a ha
  obtain ⟨v, h1, h2⟩ := h.get i a ha
  exact ⟨v, by rw [Nat.zero_add, ← Array.getElem?_toList]; exact h1, h2⟩

/-- A new row: L is what is known of its first cells. -/
theorem newRow_ok {P : Program} {q : Nat} {μ : Mu} {st : St} {w : World} (hr : HRep q μ st.h w) (hf : ∀ id, st.nx ≤ id → μ id = none) (el : TypeId) {L : List AV} {c : Array Value} {opn sm : Bool} (hc : RowR q μ c 0 L) (hle : L.length ≤ c.size) (ho : opn = false → c.size = L.length) :
    ∃ w' μ', (newRow el c).run P w = .ok ⟨w.heap.size, 0, none⟩ w' ∧ μ' st.nx = some ⟨w.heap.size, 0, c.size⟩ ∧ Ext μ μ' ∧ Good μ st w μ' (st.new (.row el L opn true 0 sm)) w' ∧ HRep q μ' (st.new (.row el L opn true 0 sm)).h w' ∧ ∀ id, (st.new (.row el L opn true 0 sm)).nx ≤ id → μ' id = none := by
  have hext : Ext μ (μ.add st.nx ⟨w.heap.size, 0, c.size⟩) := Mu.add_ext (hf _ (Nat.le_refl _))
  have hb : Blk q (μ.add st.nx ⟨w.heap.size, 0, c.size⟩) (.row el L opn true 0 sm) ⟨w.heap.size, 0, c.size⟩ (.cells c el) := by
    refine ⟨c, (0, 0), rfl, by simp, hle, fun h => ho h, fun _ => rfl, hc.mono hext, fun i _ _ => by simp, fun _ => by simp⟩
  obtain ⟨g, h, f⟩ := new_ok (o := .cells c el) hr hf rfl hb
  exact ⟨_, _, by simp [newRow, newObj, Sem.run], Mu.add_same _ _ _, hext, g, h, f⟩

/-- a value is given back, the state is a new one -/
theorem post_new {q : Nat} {μ μ' : Mu} {st st' : St} {w w' : World} {a : AV} {v : Value} (hv : Rep q μ' a v) (g : Good μ st w μ' st' w') (h : HRep q μ' st'.h w') (f : ∀ id, st'.nx ≤ id → μ' id = none) (k : Kept st st') : Post q μ st w [(a, st')] v w' :=
  ⟨a, st', by simp, μ', hv, g, h, f, k⟩

theorem St.new_kept (st : St) (b : ABlk) : Kept st (st.new b) := ⟨rfl, rfl, rfl⟩
theorem St.turn_kept (st : St) (id : Nat) (b : ABlk) : Kept st (st.turn id b) := ⟨rfl, rfl, rfl⟩

theorem value_of {ρ : Operand → Value} {P : Program} {o : Oper} {s : Sem Value} {w w' : World} {v : Value} (he : execOp ρ o = (do pure (.value (← s)))) (h : s.run P w = .ok v w') : (execOp ρ o).run P w = .ok (.value v) w' := by
  rw [he]; simp [h]
theorem skip_of {ρ : Operand → Value} {P : Program} {o : Oper} {s : Sem Unit} {w w' : World} (he : execOp ρ o = (do s; pure .skip)) (h : s.run P w = .ok () w') : (execOp ρ o).run P w = .ok .skip w' := by
  rw [he]; simp [h]

theorem row_ptr {q : Nat} {μ' : Mu} {nx b t : Nat} (h : μ' nx = some ⟨b, 0, t⟩) : Rep q μ' (.ptr nx 0) (.pointer (some ⟨b, 0, none⟩)) := by
  simp only [Rep]; exact ⟨_, h, rfl⟩

/-- alloc and box -/
theorem newVar_ok {P : Program} {q : Nat} {μ : Mu} {st : St} {w : World} (hr : HRep q μ st.h w) (hf : ∀ id, st.nx ≤ id → μ id = none) (el : TypeId) {a : AV} {cs : List AV} {v : Value} (hc : cellsA a = some cs) (hv : Rep q μ a v) :
    ∃ w' ad, (newVar el v).run P w = .ok ad w' ∧ Post q μ st w [(.ptr st.nx 0, st.new (.row el cs false true 0 false))] (.pointer (some ad)) w' := by
  have hl := cellsA_ok hc hv
  have hlen := hl.length
  simp only [Array.length_toList] at hlen
  obtain ⟨w', μ', e1, e2, e3, g, h, f⟩ := newRow_ok (P := P) (opn := false) (sm := false) hr hf el (RowR.of_repL hl) (by omega) (fun _ => by omega)
  exact ⟨w', _, e1, post_new (row_ptr e2) g h f (St.new_kept _ _)⟩

theorem elseQ_ok {q : Nat} {μ : Mu} {j : Nat} (hj : q ≠ j) {a : AV} {v : Value} (r : Rep q μ a v) : Rep q μ (elseQ j a) v := by
  unfold elseQ
  split
  · rename_i j' x y
    cases h : Nat.beq j' j with
    | true =>
      have := beq_nat h
      subst this
      simp only [Rep] at r
      exact r.2 hj
    | false => exact r
  · exact r

theorem putQ_get {v : AV} : ∀ {n j : Nat} {l r : List AV}, putQ v n j l = some r → r.length = l.length ∧ n ≤ l.length ∧ (∀ i, i < n → ∃ a, l[i]? = some a ∧ r[i]? = some (.ifq (j + i) v (elseQ (j + i) a))) ∧ ∀ i, n ≤ i → r[i]? = l[i]?
  | 0, j, l, r, h => by
    simp only [putQ, Option.some.injEq] at h; subst h
    exact ⟨rfl, Nat.zero_le _, fun i hi => by omega, fun _ _ => rfl⟩
  | n + 1, j, [], r, h => by simp [putQ] at h
  | n + 1, j, a :: l, r, h => by
    simp only [putQ] at h
    split at h
    · rename_i r' hr'
      simp only [Option.some.injEq] at h; subst h
      obtain ⟨h1, h2, h3, h4⟩ := putQ_get hr'
      refine ⟨by simp [h1], by simp; omega, fun i hi => ?_, fun i hi => ?_⟩
      · cases i with
        | zero => exact ⟨a, by simp, by simp⟩
        | succ i =>
          obtain ⟨b, e1, e2⟩ := h3 i (by omega)
          exact ⟨b, by simpa using e1, by simpa [Nat.add_assoc, Nat.add_comm 1] using e2⟩
      · cases i with
        | zero => omega
        | succ i => simpa using h4 i (by omega)
    · cases h

theorem unifyTail_get {g : List AV → Option (List AV)} : ∀ {n : Nat} {l r : List AV}, unifyTail l n g = some r → ∃ t, g (l.drop n) = some t ∧ n ≤ l.length ∧ r = l.take n ++ t
  | 0, l, r, h => by
    cases l <;> simp only [unifyTail] at h <;> exact ⟨r, by simpa using h, Nat.zero_le _, by simp⟩
  | n + 1, [], r, h => by simp [unifyTail] at h
  | n + 1, a :: l, r, h => by
    simp only [unifyTail] at h
    split at h
    · rename_i r' hr'
      simp only [Option.some.injEq] at h; subst h
      obtain ⟨t, h1, h2, rfl⟩ := unifyTail_get hr'
      exact ⟨t, by simpa using h1, by simp; omega, by simp⟩
    · cases h

theorem store_ok {P : Program} {D : Ty} (hD : DOk P D) {q : Nat} (hq : q < 8) {μ : Mu} {st st' : St} {w : World} (hr : HRep q μ st.h w) (hf : ∀ id, st.nx ≤ id → μ id = none) {t : TypeId} {a v : AV} {va vv : Value} (h : storeA D st t a v = some st') (ha : Rep q μ a va) (hv : Rep q μ v vv) :
    ∃ w', (Instr.storeAt t va vv).run P w = .ok () w' ∧ Good μ st w μ st' w' ∧ HRep q μ st'.h w' ∧ st'.nx = st.nx ∧ Kept st st' := by
  unfold storeA at h
  split at h
  · rename_i ti id off vs ht hcl
    cases hb : (Nat.beq vs.length ti.size && st.canW id && allOc vs) with
    | false => simp [hb] at h
    | true =>
      simp only [hb, cond_true] at h
      simp only [Bool.and_eq_true] at hb
      obtain ⟨⟨hsz, hw⟩, hoc⟩ := hb
      have hsz := beq_nat hsz
      split at h
      · rename_i et cells opn b0 fz sm hat
        cases hz : Nat.ble fz off with
        | false => simp [hz] at h
        | true =>
          simp only [hz, cond_true] at h
          rw [Nat.ble_eq] at hz
          split at h
          · rename_i cells' hov
            simp only [Option.some.injEq] at h; subst h
            simp only [Rep] at ha
            obtain ⟨l, hl, rfl⟩ := ha
            have hcv := cellsA_ok hcl hv
            obtain ⟨w', e1, g, hh⟩ := write_ok (P := P) hr hat hw hl hov hz hoc hcv
            refine ⟨w', ?_, g, hh, rfl, St.turn_kept _ _ _⟩
            have hl2 := hcv.length
            simp only [Array.length_toList] at hl2
            have hne : ¬ (vv.cells.size ≠ ti.size) := by omega
            simp only [Instr.storeAt, Instr.sureAddr, storeVar, Sem.run_bind, Sem.run_pure, Result.andThen_ok, run_size hD w ht]
            rw [if_neg hne]
            simpa using e1
          · cases h
      · cases h
  · rename_i ti id off x ht hcl
    cases hb : (Nat.beq ti.size 1 && st.canW id && x.oc) with
    | false => simp [hb] at h
    | true =>
      simp only [hb, cond_true] at h
      simp only [Bool.and_eq_true] at hb
      obtain ⟨⟨hsz, hw⟩, hoc⟩ := hb
      have hsz := beq_nat hsz
      split at h
      · rename_i et cells opn b0 fz sm hat
        cases hz : Nat.beq fz 0 with
        | false => simp [hz] at h
        | true =>
          simp only [hz, cond_true] at h
          have hz := beq_nat hz
          split at h
          · rename_i cells' hov
            simp only [Option.some.injEq] at h; subst h
            simp only [Rep] at ha
            obtain ⟨l, hl, rfl⟩ := ha
            have hcv := cellsA_ok hcl hv
            obtain ⟨l', c, fr, k0, k1, k2, k3, k4, k5, k6, k7, k8⟩ := row_out hr hat hl
            rw [hl] at k0
            obtain rfl := Option.some.inj k0
            obtain ⟨tl, u1, u2, rfl⟩ := unifyTail_get hov
            obtain ⟨p1, p2, p3, p4⟩ := putQ_get u1
            simp only [List.length_drop] at p1 p2
            -- the one value that is written
            obtain ⟨y, hy⟩ : ∃ y, vv.cells.toList = [y] ∧ Rep q μ x y := by
              cases hcs : vv.cells.toList with
              | nil => rw [hcs] at hcv; simp [RepL] at hcv
              | cons y ys =>
                rw [hcs] at hcv
                cases ys with
                | nil => simp only [RepL] at hcv; exact ⟨y, rfl, hcv.1⟩
                | cons _ _ => simp [RepL] at hcv
            obtain ⟨hy, hxy⟩ := hy
            obtain ⟨c', e1, e2, e3⟩ := run_storeCells_row (P := P) (b := l.blk) (o := l.base + off + q) [y] 0 c w k1 (by simp; omega) (by simp; exact oc_ok x y hoc hxy) (fun j _ hj => by
              simp at hj
              have := k7 (off + q) (by omega) (by omega)
              rw [show l.base + off + q + j = l.base + (off + q) from by omega]
              exact this)
            have hblk := (Array.getElem?_eq_some_iff.1 k1).1
            have hturn := turn_ok (o := .cells c' et fr) (b := .row et (cells.take off ++ tl) opn b0 fz sm) (w' := { w with heap := w.heap.setIfInBounds l.blk (.cells c' et fr) }) hr (by rw [hat]; simp) hw hl (by
              refine ⟨c', fr, rfl, by rw [e2]; exact k2, by simp; omega, fun h => by have := k4 h; simp; omega, k5, fun i a ha => ?_, k7, by rw [e2]; exact k8⟩
              rw [e3 (l.base + i)]
              by_cases hi : i < off
              · rw [List.getElem?_append_left (by simp; omega), List.getElem?_take, if_pos hi] at ha
                obtain ⟨z, z1, z2⟩ := k6 i a ha
                exact ⟨z, by rw [if_neg (by simp; omega)]; exact z1, z2⟩
              · rw [List.getElem?_append_right (by simp; omega)] at ha
                simp only [List.length_take] at ha
                rw [show i - min off cells.length = i - off from by omega] at ha
                by_cases h8 : i - off < 8
                · obtain ⟨b, b1, b2⟩ := p3 (i - off) h8
                  rw [b2] at ha
                  simp only [Option.some.injEq, Nat.zero_add] at ha
                  subst ha
                  rw [List.getElem?_drop, show off + (i - off) = i from by omega] at b1
                  obtain ⟨z, z1, z2⟩ := k6 i b b1
                  by_cases hqi : q = i - off
                  · refine ⟨y, ?_, ?_⟩
                    · rw [if_pos (by simp; omega), show l.base + i - (l.base + off + q + 0) = 0 from by omega]; rfl
                    · simp only [Rep]; exact ⟨fun _ => hxy, fun h => absurd hqi h⟩
                  · refine ⟨z, by rw [if_neg (by simp; omega)]; exact z1, ?_⟩
                    simp only [Rep]; exact ⟨fun h => absurd h hqi, fun h => elseQ_ok h z2⟩
                · rw [p4 (i - off) (by omega), List.getElem?_drop, show off + (i - off) = i from by omega] at ha
                  obtain ⟨z, z1, z2⟩ := k6 i a ha
                  exact ⟨z, by rw [if_neg (by simp; omega)]; exact z1, z2⟩) rfl rfl rfl (by simp) (by simp [hblk]) (fun k hk => Array.getElem?_setIfInBounds_ne (fun e => hk e.symm))
            refine ⟨_, ?_, hturn.1, hturn.2, rfl, St.turn_kept _ _ _⟩
            have hone : vv.cells.size = 1 := by have := congrArg List.length hy; simpa using this
            have hne : ¬ (vv.cells.size ≠ ti.size) := by omega
            simp only [Instr.storeAt, Instr.sureAddr, storeVar, Sem.run_bind, Sem.run_pure, Result.andThen_ok, run_size hD w ht]
            rw [if_neg hne, hy]
            simpa using e1
          · cases h
      · cases h
  · cases h

end Go.Proofs.YtdkcihleblbkaaaGreatDoor.Eng

/- A verified symbolic executor, part 21: slices, maps, makers. The lemmas hold of every program; no project text. -/
namespace Go.Proofs.YtdkcihleblbkaaaGreatDoor.Eng
set_option linter.unusedVariables false
set_option linter.unusedSimpArgs false
set_option linter.unusedSectionVars false
open Go

theorem repeat_length (z : List AV) : ∀ n, (repeatL z n).length = n * z.length
  | 0 => by simp [repeatL]
  | n + 1 => by simp [repeatL, repeat_length z n, Nat.add_mul, Nat.add_comm]

/-- cells of nought, over and over -/
theorem repeat_rep {q : Nat} {μ : Mu} {z : List AV} {zv : Array Value} (h : RepL q μ z zv.toList) (n : Nat) : RepL q μ (repeatL z n) ((Array.range (n * zv.size)).map (fun i => zv[i % zv.size]!)).toList := by
  have hl := h.length
  simp only [Array.length_toList] at hl
  refine RepL.of_get (by rw [repeat_length, hl]; simp) fun i x y hx hy => ?_
  have hi : i < n * zv.size := by
    have := (List.getElem?_eq_some_iff.1 hx).1
    rw [repeat_length, hl] at this
    exact this
  have hpos : 0 < zv.size := by
    rcases Nat.eq_zero_or_pos zv.size with h0 | h0
    · rw [h0] at hi; omega
    · exact h0
  have hmod : i % zv.size < zv.size := Nat.mod_lt _ hpos
  have hx' : z[i % z.length]? = some x := by
    clear hy
    induction n generalizing i with
    | zero => simp [repeatL] at hx
    | succ n ih =>
      simp only [repeatL] at hx
      by_cases hlt : i < z.length
      · rw [List.getElem?_append_left hlt] at hx
        rw [Nat.mod_eq_of_lt hlt]; exact hx
      · rw [List.getElem?_append_right (by omega)] at hx
        have hlt2 : i - z.length < n * zv.size := by
          have := (List.getElem?_eq_some_iff.1 hx).1
          rw [repeat_length, hl] at this
          rw [hl]; exact this
        have := ih (i - z.length) hx hlt2 (Nat.mod_lt _ hpos)
        rw [Nat.mod_eq_sub_mod (by omega)]
        exact this
  rw [hl] at hx'
  obtain ⟨y', e1, e2⟩ := h.get _ x hx'
  simp only [Array.toList_map, Array.toList_range, List.getElem?_map, List.getElem?_range hi, Option.map_some, Option.some.injEq] at hy
  rw [Array.getElem?_toList, Array.getElem?_eq_getElem hmod] at e1
  simp only [Option.some.injEq] at e1
  rw [← hy, getElem!_pos zv _ hmod, e1]
  exact e2

theorem ofVal_cells {q : Nat} {μ : Mu} {v : Value} {z : AV} {cs : List AV} (h : ofVal v = some z) (hc : cellsA z = some cs) : RepL q μ cs v.cells.toList := cellsA_ok hc (ofVal_rep h)

theorem sliceSlA_ok {P : Program} {D : Ty} (hD : DOk P D) {q : Nat} {μ : Mu} {e : Operand → Option AV} {ρ : Operand → Value} (he : EvOk q μ e ρ) {el : TypeId} {ti : TI} (hti : D el = some ti) {id off len : Nat} {cap : Option Nat} {es known : Nat} {lo hi mx : Option Operand} {r : AV} {l : Loc} {c : Nat}
    (h : sliceSlA D el id off len cap es known e lo hi mx = some r) (hl : μ id = some l) (h1 : off + c * es ≤ l.tot) (h2 : ∀ c', cap = some c' → c = c') (h3 : cap = none → off + c * es = l.tot) (h4 : len ≤ c) (h5 : c < 9223372036854775808) (hk : known ≤ l.tot) (isS : Bool) (w : World) :
    ti.size = es ∧ ∃ lo' hi' m, (Instr.sliceBounds isS len c (lo.map ρ) (hi.map ρ) (mx.map ρ)).run P w = .ok (lo', hi', m) w ∧
      Rep q μ r (.slice (some (if m = lo' then ⟨l.blk, l.base + off, none⟩ else (⟨l.blk, l.base + off, none⟩ : Addr).add (lo' * es))) (hi' - lo') (m - lo')) := by
  unfold sliceSlA at h
  rw [hti] at h
  simp only at h
  cases hs : Nat.beq ti.size es with
  | false => simp [hs] at h
  | true =>
    have hs' := beq_nat hs
    simp only [hs, cond_true] at h
    refine ⟨hs', ?_⟩
    split at h
    · rename_i lo' hi' hlo hhi
      have hrep : ∀ (m : Nat) (a b : Nat), a ≤ b → b ≤ m → m ≤ c → Rep q μ (.sl id (bif Nat.beq m a then off else off + a * es) (b - a) (some (m - a)) es) (.slice (some (if m = a then ⟨l.blk, l.base + off, none⟩ else (⟨l.blk, l.base + off, none⟩ : Addr).add (a * es))) (b - a) (m - a)) := by
        intro m a b hab hbm hmc
        have hmul : (m - a) * es + a * es = m * es := by rw [← Nat.add_mul]; congr 1; omega
        have hmul2 : m * es ≤ c * es := Nat.mul_le_mul_right _ hmc
        simp only [Rep]
        by_cases hma : m = a
        · subst hma
          refine ⟨l, m - m, hl, ?_, ?_, fun c' hc' => Option.some.inj hc', fun hn => (nomatch hn), by omega, by omega⟩
          · simp only [Nat.beq_refl, cond_true, if_true]
          · simp only [Nat.beq_refl, cond_true, Nat.sub_self, Nat.zero_mul]; omega
        · refine ⟨l, m - a, hl, ?_, ?_, fun c' hc' => Option.some.inj hc', fun hn => (nomatch hn), by omega, by omega⟩
          · simp only [beqf hma, cond_false, if_neg hma, addr_add, Nat.add_assoc]
          · simp only [beqf hma, cond_false]; omega
      have hle : ∀ m : Nat, 0 < es → roomOk cap m len off es known = true → m ≤ c := by
        intro m hpos hm
        unfold roomOk at hm
        cases hcap : cap with
        | some c0 => simp only [hcap] at hm; have := h2 c0 hcap; simp only [Nat.ble_eq] at hm; omega
        | none =>
          simp only [hcap] at hm
          simp only [Bool.or_eq_true, Nat.ble_eq] at hm
          rcases hm with hm | hm
          · omega
          · have := h3 hcap
            have hmul : m * es ≤ c * es := by omega
            exact Nat.le_of_mul_le_mul_right hmul hpos
      split at h
      · cases h
      · rename_i hsel
        have hmx : mx = none := by
          cases mx with
          | none => rfl
          | some m =>
            cases hi with
            | none => simp at hsel
            | some y =>
              simp only at hsel
              split at hsel
              · split at hsel
                · simp at hsel
                · cases hsel
              · cases hsel
        subst hmx
        cases hcap : cap with
        | some c0 =>
          rw [hcap] at h
          have hc0 := h2 c0 hcap
          subst hc0
          simp only at h
          cases hb : (Nat.ble lo' hi' && Nat.ble hi' c) with
          | false => simp [hb] at h
          | true =>
            simp only [hb, cond_true, Option.some.injEq] at h; subst h
            simp only [Bool.and_eq_true, Nat.ble_eq] at hb
            exact ⟨lo', hi', c, run_bounds he hlo hhi hb.1 hb.2 w, hrep c lo' hi' hb.1 hb.2 (Nat.le_refl _)⟩
        | none =>
          rw [hcap] at h
          simp only at h
          cases hb : (Nat.ble lo' hi' && Nat.blt 0 es && (Nat.ble hi' len || Nat.ble (off + hi' * es) known)) with
          | false => simp [hb] at h
          | true =>
            simp only [hb, cond_true] at h
            simp only [Bool.and_eq_true, Nat.ble_eq] at hb
            obtain ⟨⟨hb1, hb2⟩, hb3⟩ := hb
            have hpos := blt_lt hb2
            have hhc : hi' ≤ c := hle hi' hpos (by subst hcap; exact hb3)
            refine ⟨lo', hi', c, run_bounds he hlo hhi hb1 hhc w, ?_⟩
            have htot := h3 hcap
            cases hz : (Nat.beq lo' 0 || Nat.blt lo' len || Nat.blt (off + lo' * es) known) with
            | false => simp only [hz, cond_false, Option.some.injEq] at h; subst h; simp [Rep]
            | true =>
              simp only [hz, cond_true, Option.some.injEq] at h; subst h
              simp only [Bool.or_eq_true] at hz
              have hmul : (c - lo') * es + lo' * es = c * es := by rw [← Nat.add_mul]; congr 1; omega
              simp only [Rep, reduceCtorEq, false_implies, implies_true, true_and, forall_const]
              refine ⟨l, c - lo', hl, ?_, by omega, by omega, by omega, by omega⟩
              rcases hz with (hz | hz) | hz
              · have := beq_nat hz
                subst this
                by_cases hc0 : c = 0
                · simp [hc0]
                · rw [if_neg hc0, addr_add]; simp
              · have := blt_lt hz
                rw [if_neg (by omega), addr_add, Nat.add_assoc]
              · have := blt_lt hz
                have hlt : lo' * es < c * es := by omega
                have hne : c ≠ lo' := by intro e; subst e; omega
                rw [if_neg hne, addr_add, Nat.add_assoc]
      · rename_i m hsel
        have hmx : ∃ mo a, mx = some mo ∧ hi ≠ none ∧ e mo = some a ∧ natOf a = some m := by
          cases mx with
          | none => simp at hsel
          | some mo =>
            cases hi with
            | none => simp at hsel
            | some y =>
              simp only at hsel
              split at hsel
              · rename_i a ha
                split at hsel
                · rename_i m' hm'
                  simp only [Option.some.injEq] at hsel
                  subst hsel
                  exact ⟨mo, a, rfl, by simp, ha, hm'⟩
                · cases hsel
              · cases hsel
        obtain ⟨mo, a, rfl, hhn, ha, hm⟩ := hmx
        cases hb : (Nat.ble lo' hi' && Nat.ble hi' m && Nat.blt 0 es && roomOk cap m len off es known) with
        | false => simp [hb] at h
        | true =>
          simp only [hb, cond_true, Option.some.injEq] at h; subst h
          simp only [Bool.and_eq_true, Nat.ble_eq] at hb
          obtain ⟨⟨⟨hb1, hb2⟩, hb3⟩, hb4⟩ := hb
          have hmc := hle m (blt_lt hb3) hb4
          exact ⟨lo', hi', m, run_bounds3 he hlo hhi hhn ha hm hb1 hb2 hmc w, hrep m lo' hi' hb1 hb2 hmc⟩
    · cases h

end Go.Proofs.YtdkcihleblbkaaaGreatDoor.Eng

/- A verified symbolic executor, part 22: makers, loads, stores and slices as operations at a frame. The lemmas hold of every program; no project text. -/
namespace Go.Proofs.YtdkcihleblbkaaaGreatDoor.Eng
set_option linter.unusedVariables false
set_option linter.unusedSimpArgs false
set_option linter.unusedSectionVars false
open Go

section ops
variable {P : Program} {D : Ty} (hD : DOk P D) {q : Nat} (hq : q < 8) {μ : Mu} {st : St} {w : World} (hr : HRep q μ st.h w) (hf : ∀ id, st.nx ≤ id → μ id = none) {e : Operand → Option AV} {ρ : Operand → Value} (he : EvOk q μ e ρ) {o : Oper}
include hD hq hr hf he

theorem load_does {t : TypeId} {x : Operand} {a r : AV} (ho : o.op = .load t x) (hx : e x = some a) (h : loadA D st t a = some r) : OpDoes P o ρ w (Post q μ st w [(r, st)]) := by
  obtain ⟨ad, v, h1, h2, h3⟩ := loadA_ok hD hq hr h (he x a hx)
  refine does_value (v := v) (w' := w) (by rw [ho]; rfl) (value_of (s := Instr.loadAt t (ρ x)) (by simp only [execOp, ho]) ?_) (post_pure hr hf h3)
  simp [Instr.loadAt, h1, Instr.sureAddr, h2]

theorem store_does {t : TypeId} {x y : Operand} {a v : AV} {st' : St} (ho : o.op = .store t x y) (hx : e x = some a) (hy : e y = some v) (h : storeA D st t a v = some st') : OpDoes P o ρ w (Post q μ st w [(undefA, st')]) := by
  obtain ⟨w', h1, g, hh, hn, hk⟩ := store_ok hD hq hr hf h (he x a hx) (he y v hy)
  refine does_skip (w' := w') (by rw [ho]; rfl) (skip_of (s := Instr.storeAt t (ρ x) (ρ y)) (by simp only [execOp, ho]) h1) ?_
  exact ⟨undefA, st', by simp, μ, by simp only [undefA, undef, Rep]; exact ⟨#[], rfl, by simp [RepL]⟩, g, hh, by rw [hn]; exact hf, hk⟩

theorem alloc_does {el : TypeId} {ti : TI} {z : AV} {cs : List AV} (ho : o.op = .alloc el) (ht : D el = some ti) (hz : ti.zero = some z) (hc : cellsA z = some cs) : OpDoes P o ρ w (Post q μ st w [(.ptr st.nx 0, st.new (.row el cs false true 0 false))]) := by
  obtain ⟨zv, h1, h2⟩ := run_zero hD w ht hz
  obtain ⟨w', ad, e1, e2⟩ := newVar_ok (P := P) hr hf el hc (ofVal_rep h2)
  refine does_value (v := .pointer (some ad)) (w' := w') (by rw [ho]; rfl) (value_of (s := Instr.alloc el true (.tuple #[])) (by simp only [execOp, ho]) ?_) e2
  simp [Instr.alloc, h1, e1]

theorem box_does {el : TypeId} {x : Operand} {a : AV} {cs : List AV} (ho : o.op = .box el x) (hx : e x = some a) (hc : cellsA a = some cs) : OpDoes P o ρ w (Post q μ st w [(.ptr st.nx 0, st.new (.row el cs false true 0 false))]) := by
  obtain ⟨w', ad, e1, e2⟩ := newVar_ok (P := P) hr hf el hc (he x a hx)
  refine does_value (v := .pointer (some ad)) (w' := w') (by rw [ho]; rfl) (value_of (s := Instr.box el (ρ x)) (by simp only [execOp, ho]) ?_) e2
  simp [Instr.box, e1]

theorem makeMap_does {t : TypeId} (ho : o.op = .makeMap t none) : OpDoes P o ρ w (Post q μ st w [(.map st.nx, st.new (.map []))]) := by
  have hb : Blk q (μ.add st.nx ⟨w.heap.size, 0, 0⟩) (.map []) ⟨w.heap.size, 0, 0⟩ (.map #[] 0) := ⟨#[], 0, rfl, by simp [MapR]⟩
  obtain ⟨g, h, f⟩ := new_ok (o := .map #[] 0) hr hf rfl hb
  refine does_value (v := .map (some w.heap.size)) (w' := { w with heap := w.heap.push (.map #[] 0) }) (by rw [ho]; rfl) (value_of (s := Instr.makeMap t none) (by simp only [execOp, ho, Option.map_none]) ?_) ?_
  · simp [Instr.makeMap, newObj, Sem.run]
  · exact post_new (by simp only [Rep]; exact ⟨_, Mu.add_same _ _ _, rfl⟩) g h f (St.new_kept _ _)

theorem makeSlice_does {t el : TypeId} {x y : Operand} {kl kc : IntKind} {n c : Nat} {tt ti : TI} {z : AV} {zc : List AV} (ho : o.op = .makeSlice t x y) (ht : D t = some tt) (hs : tt.cls = .sl el) (hx : e x = some (.int kl (.ofNat n))) (hy : e y = some (.int kc (.ofNat c)))
    (hti : D el = some ti) (hz : ti.zero = some z) (hc : cellsA z = some zc) (hnc : n ≤ c) (hcc : c ≤ 1000000) (hby : ti.bytes ≤ 100000) (hzl : zc.length = ti.size) :
    OpDoes P o ρ w (Post q μ st w [(.sl st.nx 0 n (some c) ti.size, st.new (.row el (repeatL zc c) false true 0 false))]) := by
  obtain ⟨d, d1, d2, d3⟩ := run_und hD w ht
  rw [hs] at d2
  obtain rfl := cls_sl d2
  obtain ⟨i, i1, i2, i3, _⟩ := run_info hD w hti
  obtain ⟨zv, z1, z2⟩ := run_zero hD w hti hz
  have hzr := ofVal_cells (q := q) (μ := μ) z2 hc
  have hx' := he x _ hx
  have hy' := he y _ hy
  simp only [Rep] at hx' hy'
  have hzsz : zv.cells.size = ti.size := by have := hzr.length; simp at this; omega
  have hrep := repeat_rep hzr c
  rw [hzsz] at hrep
  have hlen : (repeatL zc c).length = c * ti.size := by rw [repeat_length, hzl]
  have hwr : ∀ m : Nat, m ≤ 1000000 → IntKind.i64.wrap (m : Int) = (m : Int) := fun m hm => wrap_in (by simp [loK, sgn, lim]) (by simp [hiK, lim]; omega)
  have hlw := hwr n (by omega)
  have hcw := hwr c hcc
  have hbc : i.bytes * c ≤ 100000000000 := by
    have : i.bytes * c ≤ 100000 * 1000000 := Nat.mul_le_mul (by omega) hcc
    omega
  obtain ⟨w', μ', e1, e2, e3, g, h, f⟩ := newRow_ok (P := P) (opn := false) (sm := false) hr hf el (RowR.of_repL hrep) (by simp [hlen]) (fun _ => by simp [hlen])
  refine does_value (v := .slice (some ⟨w.heap.size, 0, none⟩) n c) (w' := w') (by rw [ho]; rfl) (value_of (s := Instr.makeSlice t (ρ x) (ρ y)) (by simp only [execOp, ho]) ?_) ?_
  · have hx'' : ρ x = .int kl (n : Int) := hx'
    have hy'' : ρ y = .int kc (c : Int) := hy'
    have hz0 : c * ti.size = 0 → (Array.range (c * ti.size)).map (fun j => (#[] : Array Value)[j % (#[] : Array Value).size]!) = (Array.range (c * ti.size)).map (fun j => zv.cells[j % ti.size]!) := by
      intro h0; rw [h0]; simp
    have t1 : ¬ ((c : Int) < 0) := by omega
    have t2 : ¬ ((i.bytes : Int) * (c : Int) > 2 ^ 48) := by
      have : ((i.bytes * c : Nat) : Int) ≤ 100000000000 := by omega
      rw [Int.natCast_mul] at this
      omega
    have t3 : ¬ ((n : Int) < 0) := by omega
    have t4 : ¬ ((n : Int) > (c : Int)) := by omega
    have t5 : ¬ (c * i.bytes > roomBytes) := by
      have : roomBytes = 140737488355328 := by decide
      rw [this, Nat.mul_comm]; omega
    have hcond : (((decide ((c : Int) < 0) || decide ((i.bytes : Int) * (c : Int) > 2 ^ 48)) || decide ((n : Int) < 0)) || decide ((n : Int) > (c : Int))) = false := by
      simp only [t1, t2, t3, t4, decide_false, Bool.or_self]
    simp only [Instr.makeSlice, Sem.run_bind, d3, Result.andThen_ok, hx'', hy'', asInt, asIntOf, Sem.run_pure, i1, hlw, hcw]
    rw [if_neg (by rw [hcond]; simp)]
    have hask : (askRoom (c * i.bytes)).run P w = .ok () w := by unfold askRoom; rw [if_neg t5]; rfl
    simp only [Int.toNat_natCast, Sem.run_bind, hask, Result.andThen_ok, run_size hD w hti]
    by_cases h0 : c * ti.size = 0
    · rw [if_pos h0]
      simp only [Sem.run_bind, Sem.run_pure, Result.andThen_ok]
      rw [hz0 h0, e1]
      rfl
    · rw [if_neg h0]
      simp only [Sem.run_bind, z1, Sem.run_pure, Result.andThen_ok, hzsz]
      rw [e1]
      rfl
  · refine post_new ?_ g h f (St.new_kept _ _)
    simp only [Rep]
    refine ⟨_, c, e2, by simp, by simp, fun c' hc' => Option.some.inj hc', fun hn => (nomatch hn), hnc, by omega⟩

theorem known_le {id : Nat} {l : Loc} (hl : μ id = some l) : knownCells st id ≤ l.tot := by
  unfold knownCells
  split
  · rename_i et cells opn b0 fz sm hat
    obtain ⟨l', c, fr, k0, k1, k2, k3, _⟩ := row_out hr hat hl
    rw [hl] at k0
    obtain rfl := Option.some.inj k0
    exact k3
  · omega

theorem slice_does {t el : TypeId} {x : Operand} {lo hi mx : Option Operand} {tt ti : TI} {id off len es : Nat} {cap : Option Nat} {r : AV} (ho : o.op = .slice t x lo hi mx) (ht : D t = some tt) (hs : tt.cls = .sl el) (hti : D el = some ti) (hx : e x = some (.sl id off len cap es))
    (h : sliceSlA D el id off len cap es (knownCells st id) e lo hi mx = some r) : OpDoes P o ρ w (Post q μ st w [(r, st)]) := by
  obtain ⟨d, d1, d2, d3⟩ := run_und hD w ht
  rw [hs] at d2
  obtain rfl := cls_sl d2
  have hx' := he x _ hx
  simp only [Rep] at hx'
  obtain ⟨l, c, hl, hv, r1, r2, r3, r4, r5⟩ := hx'
  have hkn : knownCells st id ≤ l.tot := known_le hD hq hr hf he hl
  obtain ⟨hes, lo', hi', m, b1, b2⟩ := sliceSlA_ok (P := P) hD he hti h hl r1 r2 r3 r4 r5 hkn true w
  refine does_value (v := .slice (some (if m = lo' then ⟨l.blk, l.base + off, none⟩ else (⟨l.blk, l.base + off, none⟩ : Addr).add (lo' * es))) (hi' - lo') (m - lo')) (w' := w) (by rw [ho]; rfl) (value_of (s := Instr.sliceAt t (ρ x) (lo.map ρ) (hi.map ρ) (mx.map ρ)) (by simp only [execOp, ho]) ?_) (post_pure hr hf b2)
  simp only [Instr.sliceAt, Instr.slice, Sem.run_bind, d3, hv, Result.andThen_ok, b1, run_size hD w hti, hes, Sem.run_pure]
  split <;> rfl

end ops

end Go.Proofs.YtdkcihleblbkaaaGreatDoor.Eng

/- A verified symbolic executor, part 23: what is appended or copied; copy. The lemmas hold of every program; no project text. -/
namespace Go.Proofs.YtdkcihleblbkaaaGreatDoor.Eng
set_option linter.unusedVariables false
set_option linter.unusedSimpArgs false
set_option linter.unusedSectionVars false
open Go

theorem byteA_rep {q : Nat} {μ : Mu} {n : Nat} {c : UInt8} (h : ByteR q n c) : Rep q μ (byteA n) (.int .u8 c.toNat) := by
  unfold byteA
  cases h1 : Nat.blt n 256 with
  | true => simp only [cond_true, Rep]; rw [h.1 (blt_lt h1)]
  | false =>
    simp only [cond_false]
    cases h2 : Nat.beq n 256 with
    | true => simp only [cond_true, Rep]; rw [h.2 (beq_nat h2)]; simp; omega
    | false => simp only [cond_false, Rep]; exact ⟨_, rfl, by omega, by have := c.toNat_lt; omega⟩

theorem bytes_rep {q : Nat} {μ : Mu} : ∀ {s : List Nat} {l : List UInt8}, BytesR q s l → RepL q μ (s.map byteA) (l.map fun c => .int .u8 c.toNat)
  | [], [], _ => by simp [RepL]
  | n :: s, c :: l, h => by
    simp only [BytesR] at h
    simp only [List.map_cons, RepL]
    exact ⟨byteA_rep h.1, bytes_rep h.2⟩
  | [], _ :: _, h => by simp [BytesR] at h
  | _ :: _, [], h => by simp [BytesR] at h

theorem lenA_ok {P : Program} {q : Nat} {μ : Mu} {a : AV} {v : Value} {n : Nat} (h : lenA a = some n) (r : Rep q μ a v) (w : World) : (Builtin.lenOf v).run P w = .ok n w := by
  unfold lenA at h
  split at h
  · simp only [Option.some.injEq] at h; subst h
    simp only [Rep] at r; obtain ⟨_, _, _, rfl, _⟩ := r; rfl
  · simp only [Option.some.injEq] at h; subst h
    simp only [Rep] at r; subst r; rfl
  · simp only [Option.some.injEq] at h; subst h
    simp only [Rep] at r; obtain ⟨b, rfl, hb⟩ := r
    have : b.size = _ := hb.length.symm
    simp only [Builtin.lenOf, Sem.run_pure]
    congr 1
  · cases h

theorem srcCells_ok {P : Program} {q : Nat} {μ : Mu} {st : St} {w : World} (hr : HRep q μ st.h w) {es n : Nat} {a : AV} {v : Value} {l : List AV} (h : srcCells st es n a = some l) (r : Rep q μ a v) :
    ∃ vs : Array Value, (Builtin.firstCells es n v).run P w = .ok vs w ∧ RepL q μ l vs.toList := by
  unfold srcCells at h
  split at h
  · rename_i id off len cap es'
    cases hb : (Nat.beq es es' && Nat.ble n len) with
    | false => simp [hb] at h
    | true =>
      simp only [hb, cond_true] at h
      split at h
      · rename_i et cells opn b0 fz sm hat
        simp only [Rep] at r
        obtain ⟨lc, c, hl, rfl, _⟩ := r
        obtain ⟨l', cc, fr, k0, k1, k2, k3, k4, k5, k6, _⟩ := row_out hr hat hl
        rw [hl] at k0
        obtain rfl := Option.some.inj k0
        obtain ⟨vs, v1, v2, v3, _⟩ := cells_read (P := P) k1 k6 h
        exact ⟨vs.toArray, by simpa [Builtin.firstCells] using v1, by simpa using v2⟩
      · cases h
  · cases hb : Nat.beq n 0 with
    | false => simp [hb] at h
    | true =>
      simp only [hb, cond_true, Option.some.injEq] at h; subst h
      simp only [Rep] at r; subst r
      exact ⟨#[], rfl, by simp [RepL]⟩
  · rename_i s
    cases hb : Nat.beq es 1 with
    | false => simp [hb] at h
    | true =>
      simp only [hb, cond_true] at h
      split at h
      · rename_i l' hl'
        simp only [Option.some.injEq] at h; subst h
        simp only [Rep] at r
        obtain ⟨b, rfl, hbb⟩ := r
        have hrep := bytes_rep (μ := μ) hbb
        have ht := takeN_rep (vs := b.data.toList.map fun c => Value.int .u8 c.toNat) hl' fun i a ha => hrep.get i a ha
        refine ⟨_, rfl, ?_⟩
        have : ((b.extract 0 n).data.map fun c => Value.int .u8 c.toNat).toList = (b.data.toList.map fun c => Value.int .u8 c.toNat).take n := by
          simp [ByteArray.data_extract]
        rw [this]
        exact ht.1
      · cases h
  · cases h

theorem copy_ok {P : Program} {D : Ty} (hD : DOk P D) {q : Nat} {μ : Mu} {st st' : St} {w : World} (hr : HRep q μ st.h w) {t : TypeId} {ts : List TypeId} {ty : TypeId} {a x r : AV} {va vx : Value} (h : copyA D st t a x = some (r, st')) (ha : Rep q μ a va) (hx : Rep q μ x vx) :
    ∃ v w', (Builtin.copy_ (t :: ts).toArray ty #[va, vx]).run P w = .ok v w' ∧ Rep q μ r v ∧ Good μ st w μ st' w' ∧ HRep q μ st'.h w' ∧ st'.nx = st.nx ∧ Kept st st' := by
  unfold copyA at h
  split at h
  · rename_i el sz by_ z eq ht
    obtain ⟨d, d1, d2, d3⟩ := run_und hD w ht
    obtain rfl := cls_sl d2
    split at h
    · rename_i ti hti
      split at h
      · rename_i m k hm hk
        have hva : ∃ ba cap, va = .slice ba m cap := by
          unfold lenSl at hm
          split at hm
          · simp only [Option.some.injEq] at hm; subst hm
            simp only [Rep] at ha; obtain ⟨_, _, _, rfl, _⟩ := ha
            exact ⟨_, _, rfl⟩
          · simp only [Option.some.injEq] at hm; subst hm
            simp only [Rep] at ha; subst ha
            exact ⟨_, _, rfl⟩
          · cases hm
        obtain ⟨ba, cap, rfl⟩ := hva
        have hn : (bif Nat.ble k m then k else m) = Nat.min k m := by
          cases hb : Nat.ble k m with
          | true => rw [Nat.ble_eq] at hb; simp only [cond_true]; exact (Nat.min_eq_left hb).symm
          | false =>
            have : ¬ k ≤ m := by rw [← Nat.ble_eq, hb]; simp
            simp only [cond_false]; exact (Nat.min_eq_right (by omega)).symm
        simp only [hn] at h
        split at h
        · cases h
        · rename_i hsrc
          obtain ⟨vs, c1, c2⟩ := srcCells_ok (P := P) hr hsrc hx
          simp only [Option.some.injEq, Prod.mk.injEq] at h
          obtain ⟨rfl, rfl⟩ := h
          have hvs : vs.toList = [] := by
            cases hv : vs.toList with
            | nil => rfl
            | cons y ys => rw [hv] at c2; simp [RepL] at c2
          refine ⟨.int .i64 (Nat.min k m), w, ?_, by simp [Rep], Good.refl _ _ _, hr, rfl, ⟨rfl, rfl, rfl⟩⟩
          have hsc : ∀ ad, (storeCells ad vs.toList).run P w = .ok () w := by intro ad; rw [hvs]; rfl
          cases ba with
          | none => simp [Builtin.copy_, d3, lenA_ok (P := P) hk hx, run_size hD w hti, c1, goInt]
          | some ad => simp [Builtin.copy_, d3, lenA_ok (P := P) hk hx, run_size hD w hti, c1, hsc, goInt]
        · rename_i new _ hsrc
          obtain ⟨vs, c1, c2⟩ := srcCells_ok (P := P) hr hsrc hx
          split at h
          · rename_i id off len' cap' es
            cases hb : (Nat.beq es ti.size && st.canW id && allOc new) with
            | false => simp [hb] at h
            | true =>
              simp only [hb, cond_true] at h
              simp only [Bool.and_eq_true] at hb
              obtain ⟨⟨_, hw⟩, hoc⟩ := hb
              split at h
              · rename_i et cells opn b0 fz sm hat
                cases hz : Nat.ble fz off with
                | false => simp [hz] at h
                | true =>
                  simp only [hz, cond_true] at h
                  rw [Nat.ble_eq] at hz
                  split at h
                  · rename_i cells' hov
                    simp only [Option.some.injEq, Prod.mk.injEq] at h
                    obtain ⟨rfl, rfl⟩ := h
                    simp only [Rep] at ha
                    obtain ⟨l, c, hl, hv, _⟩ := ha
                    obtain ⟨w', e1, g, hh⟩ := write_ok (P := P) hr hat hw hl hov hz hoc c2
                    simp only [Value.slice.injEq] at hv
                    obtain ⟨rfl, _, _⟩ := hv
                    refine ⟨.int .i64 (Nat.min k m), w', ?_, by simp [Rep], g, hh, rfl, St.turn_kept _ _ _⟩
                    simp [Builtin.copy_, d3, lenA_ok (P := P) hk hx, run_size hD w hti, c1, e1, goInt]
                  · cases h
              · cases h
          · cases h
      · cases h
    · cases h
  · cases h

end Go.Proofs.YtdkcihleblbkaaaGreatDoor.Eng

/- A verified symbolic executor, part 24: maps. The lemmas hold of every program; no project text. -/
namespace Go.Proofs.YtdkcihleblbkaaaGreatDoor.Eng
set_option linter.unusedVariables false
set_option linter.unusedSimpArgs false
set_option linter.unusedSectionVars false
open Go

theorem map_out {q : Nat} {μ : Mu} {h : T ABlk} {w : World} (hr : HRep q μ h w) {id : Nat} {es : List (AV × AV)} (hat : h.at_ id = some (.map es)) {l : Loc} (hl : μ id = some l) :
    ∃ ents clk, w.heap[l.blk]? = some (.map ents clk) ∧ MapR q μ es ents.toList := by
  obtain ⟨o, h2, h3⟩ := hr.obj id _ _ hat hl
  obtain ⟨ents, clk, rfl, hm⟩ := h3
  exact ⟨ents, clk, h2, hm⟩

theorem MapR.length {q : Nat} {μ : Mu} : ∀ {a : List (AV × AV)} {v : List MapEntry}, MapR q μ a v → a.length = v.length
  | [], [], _ => rfl
  | _ :: _, _ :: _, h => by simp only [MapR] at h; simp [MapR.length h.2.2]
  | [], _ :: _, h => by simp [MapR] at h
  | _ :: _, [], h => by simp [MapR] at h

theorem run_getObj {P : Program} {w : World} {r : Nat} {o : Obj} (h : w.heap[r]? = some o) (hn : ∀ c e f, o ≠ .cells c e f := by intro _ _ _ h; cases h) : (getObj r).run P w = .ok o w := by
  cases o with
  | cells c e f => exact absurd rfl (hn c e f)
  | _ => simp [getObj, Sem.run, h]

theorem range_does {P : Program} {D : Ty} (hD : DOk P D) {q : Nat} {μ : Mu} {st : St} {w : World} (hr : HRep q μ st.h w) (hf : ∀ id, st.nx ≤ id → μ id = none) {e : Operand → Option AV} {ρ : Operand → Value} (he : EvOk q μ e ρ) {o : Oper}
    {t k el : TypeId} {tt : TI} {x : Operand} {id : Nat} {es : List (AV × AV)} (ho : o.op = .range t x) (ht : D t = some tt) (hs : tt.cls = .map k el) (hx : e x = some (.map id)) (hat : st.h.at_ id = some (.map es)) :
    OpDoes P o ρ w (Post q μ st w [(.ptr st.nx 0, st.new (.iter id))]) := by
  obtain ⟨d, d1, d2, d3⟩ := run_und hD w ht
  rw [hs] at d2
  obtain rfl := cls_map d2
  have hx' := he x _ hx
  simp only [Rep] at hx'
  obtain ⟨l, hl, hv⟩ := hx'
  obtain ⟨ents, clk, hm, _⟩ := map_out hr hat hl
  have hext : Ext μ (μ.add st.nx ⟨w.heap.size, 0, 0⟩) := Mu.add_ext (hf _ (Nat.le_refl _))
  have hb : Blk q (μ.add st.nx ⟨w.heap.size, 0, 0⟩) (.iter id) ⟨w.heap.size, 0, 0⟩ (.mapIter (some l.blk) clk #[] clk) := ⟨rfl, l, clk, clk, hext _ _ hl, rfl⟩
  obtain ⟨g, h, f⟩ := new_ok (o := .mapIter (some l.blk) clk #[] clk) hr hf rfl hb
  refine does_value (v := .pointer (some ⟨w.heap.size, 0, none⟩)) (w' := { w with heap := w.heap.push (.mapIter (some l.blk) clk #[] clk) }) (by rw [ho]; rfl) (value_of (s := Instr.range t (ρ x)) (by simp only [execOp, ho]) ?_) ?_
  · simp [Instr.range, d3, hv, run_getObj hm, newObj, Sem.run]
  · exact post_new (by simp only [Rep]; exact ⟨_, Mu.add_same _ _ _, rfl⟩) g h f (St.new_kept _ _)

theorem next_does {P : Program} {q : Nat} {μ : Mu} {st : St} {w : World} (hr : HRep q μ st.h w) (hf : ∀ id, st.nx ≤ id → μ id = none) {e : Operand → Option AV} {ρ : Operand → Value} (he : EvOk q μ e ρ) {o : Oper}
    {x : Operand} {i m : Nat} (ho : o.op = .next x false) (hx : e x = some (.ptr i 0)) (hat : st.h.at_ i = some (.iter m)) (hm : st.h.at_ m = some (.map [])) :
    OpDoes P o ρ w (Post q μ st w [(.tup [.bool false], st)]) := by
  have hx' := he x _ hx
  simp only [Rep] at hx'
  obtain ⟨l, hl, hv⟩ := hx'
  obtain ⟨ob, h2, h3⟩ := hr.obj i _ _ hat hl
  obtain ⟨hb0, ml, since, stp, hml, rfl⟩ := h3
  obtain ⟨ents, clk, hmm, hmr⟩ := map_out hr hm hml
  have hnil : ents = #[] := by
    have := hmr.length
    simp at this
    exact Array.eq_empty_of_size_eq_zero this.symm
  subst hnil
  refine does_value (v := .tuple #[.bool false]) (w' := w) (by rw [ho]; rfl) (value_of (s := Instr.next (ρ x) false o.type) (by simp only [execOp, ho]) ?_) (post_pure hr hf (by simp only [Rep]; exact ⟨_, rfl, by simp [RepL, Rep]⟩))
  simp [Instr.next, hv, hb0, run_getObj h2, run_getObj hmm, choose, Sem.run, Question.forced]

end Go.Proofs.YtdkcihleblbkaaaGreatDoor.Eng

/- A verified symbolic executor, part 25: slices out of their parts; the length of a map. The lemmas hold of every program; no project text. -/
namespace Go.Proofs.YtdkcihleblbkaaaGreatDoor.Eng
set_option linter.unusedVariables false
set_option linter.unusedSimpArgs false
set_option linter.unusedSectionVars false
open Go

theorem buildSlice_does {P : Program} {D : Ty} (hD : DOk P D) {q : Nat} {μ : Mu} {st : St} {w : World} (hr : HRep q μ st.h w) (hf : ∀ id, st.nx ≤ id → μ id = none) {e : Operand → Option AV} {ρ : Operand → Value} (he : EvOk q μ e ρ) {o : Oper}
    {t el : TypeId} {len : Nat} {parts : Array (Nat × Operand)} {tt ti : TI} {z : AV} {zc cs : List AV} {ps : List (Nat × AV)} (ho : o.op = .buildSlice t len parts) (ht : D t = some tt) (hs : tt.cls = .sl el) (hti : D el = some ti) (hz : ti.zero = some z) (hc : cellsA z = some zc)
    (hp : evP e parts.toList = some ps) (hle : len * ti.size ≤ 100000) (hll : len ≤ 100000) (hzl : zc.length = ti.size) (hfill : fillA (fun i => some (i * ti.size, ti.size)) (repeatL zc len) ps = some cs) :
    OpDoes P o ρ w (Post q μ st w [(.sl st.nx 0 len (some len) ti.size, st.new (.row el cs false true 0 false))]) := by
  obtain ⟨d, d1, d2, d3⟩ := run_und hD w ht
  rw [hs] at d2
  obtain rfl := cls_sl d2
  obtain ⟨zv, z1, z2⟩ := run_zero hD w hti hz
  have hzr := ofVal_cells (q := q) (μ := μ) z2 hc
  have hzsz : zv.cells.size = ti.size := by have := hzr.length; simp at this; omega
  have hrep := repeat_rep hzr len
  rw [hzsz] at hrep
  have hps := evP_ok he hp
  obtain ⟨rv, f1, f2⟩ := fillA_ok (pv := parts.toList.map fun x => (x.1, ρ x.2)) hps hfill hrep
  have hlen : cs.length = rv.size := by have := f2.length; simpa using this
  have hcl : cs.length = len * ti.size := by
    have hl : ∀ (ps : List (Nat × AV)) (c r : List AV), fillA (fun i => some (i * ti.size, ti.size)) c ps = some r → r.length = c.length := by
      intro ps
      induction ps with
      | nil => intro c r h; simp only [fillA, Option.some.injEq] at h; rw [h]
      | cons p ps ih =>
        intro c r h
        obtain ⟨i, v⟩ := p
        simp only [fillA] at h
        split at h
        · rename_i off size vs _ _
          cases hb : Nat.beq vs.length size with
          | false => simp [hb] at h
          | true =>
            simp only [hb, cond_true] at h
            split at h
            · rename_i c' hov
              rw [ih c' r h, (over_get hov).1]
            · cases h
        · cases h
    rw [hl ps _ _ hfill, repeat_length, hzl]
  obtain ⟨w', μ', e1, e2, e3, g, h, f⟩ := newRow_ok (P := P) (opn := false) (sm := false) hr hf el (RowR.of_repL f2) (by omega) (fun _ => by omega)
  refine does_value (v := .slice (some ⟨w.heap.size, 0, none⟩) len len) (w' := w') (by rw [ho]; rfl) (value_of (s := Instr.buildSlice t len (parts.map fun x => (x.1, ρ x.2))) (by simp only [execOp, ho]) ?_) ?_
  · have hnb : ¬ (len * ti.size > 2 ^ 24) := by omega
    simp only [Instr.buildSlice, Sem.run_bind, d3, Result.andThen_ok, run_size hD w hti]
    rw [if_neg hnb]
    have hz0 : len * ti.size = 0 → (Array.range (len * ti.size)).map (fun j => (#[] : Array Value)[j % (#[] : Array Value).size]!) = (Array.range (len * ti.size)).map (fun j => zv.cells[j % ti.size]!) := by
      intro h0; rw [h0]; simp
    by_cases h0 : len * ti.size = 0
    · rw [if_pos h0]
      simp only [Sem.run_bind, Sem.run_pure, Result.andThen_ok, Array.toList_map]
      rw [hz0 h0, f1]
      simp only [Sem.run_bind, e1, Result.andThen_ok, Sem.run_pure]
    · rw [if_neg h0]
      simp only [Sem.run_bind, Sem.run_pure, Result.andThen_ok, z1, hzsz, Array.toList_map]
      rw [f1]
      simp only [Sem.run_bind, e1, Result.andThen_ok, Sem.run_pure]
  · refine post_new ?_ g h f (St.new_kept _ _)
    simp only [Rep]
    exact ⟨_, len, e2, by simp, by simp only [Nat.zero_add]; omega, fun c' hc' => Option.some.inj hc', fun hn => (nomatch hn), Nat.le_refl _, by omega⟩

end Go.Proofs.YtdkcihleblbkaaaGreatDoor.Eng
