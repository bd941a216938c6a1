/- A verified symbolic executor, part K4: what the checks of weaker states say. No project text. -/
import Derived.Test.YtdkcihleblbkaaaGreatDoorK3
namespace Go.Proofs.YtdkcihleblbkaaaGreatDoor.Eng
set_option linter.unusedVariables false
set_option linter.unusedSimpArgs false
set_option linter.unusedSectionVars false
open Go

theorem wkY_ok {q : Nat} : ∀ {s t : List Nat} {l : List UInt8}, wkY s t = true → BytesR q s l → BytesR q t l
  | [], [], _, _, r => r
  | a :: s, b :: t, c :: l, h, r => by
    simp only [wkY, Bool.and_eq_true, Bool.or_eq_true] at h
    simp only [BytesR] at r ⊢
    refine ⟨?_, wkY_ok h.2 r.2⟩
    rcases h.1 with e | e
    · rw [← beq_nat e]; exact r.1
    · have : 257 ≤ b := Nat.le_of_ble_eq_true e
      exact ⟨fun h => by omega, fun h => by omega⟩
  | _ :: _, _ :: _, [], _, r => by simp [BytesR] at r
  | [], _ :: _, _, h, _ => by simp [wkY] at h
  | _ :: _, [], _, h, _ => by simp [wkY] at h

theorem wkV_ok {q : Nat} {μ : Mu} {a b : AV} {v : Value} (h : wkV a b = true) (r : Rep q μ a v) : Rep q μ b v := by
  unfold wkV at h
  split at h
  split at h
  · simp [Rep]
  · rename_i k' lo hi
    split at h
    · simp only [Bool.and_eq_true, decide_eq_true_eq] at h
      obtain ⟨⟨rfl, h1⟩, h2⟩ := h
      simp only [Rep] at r ⊢
      exact ⟨_, r, h1, h2⟩
    · rw [← AV.beq_eq _ _ h]; exact r
  · rename_i lo hi
    split at h
    · simp only [Bool.and_eq_true] at h
      simp only [Rep] at r ⊢
      obtain ⟨b, rfl, hb⟩ := r
      have e := hb.length
      have e1 := Nat.le_of_ble_eq_true h.1
      have e2 := Nat.le_of_ble_eq_true h.2
      have e3 : b.size = b.data.toList.length := by simp
      exact ⟨b, rfl, by omega, by omega⟩
    · simp only [Bool.and_eq_true] at h
      simp only [Rep] at r ⊢
      obtain ⟨b, rfl, r1, r2⟩ := r
      have e1 := Nat.le_of_ble_eq_true h.1
      have e2 := Nat.le_of_ble_eq_true h.2
      exact ⟨b, rfl, by omega, by omega⟩
    · cases h
  · rename_i j' x' y'
    split at h
    · simp only [Bool.and_eq_true] at h
      obtain ⟨⟨h1, h2⟩, h3⟩ := h
      have e1 := beq_nat h1
      subst e1
      rw [← AV.beq_eq _ _ h2, ← AV.beq_eq _ _ h3]
      exact r
    · cases h
  · rename_i t y'
    split at h
    · rename_i s y
      simp only [Bool.and_eq_true] at h
      rw [← AV.beq_eq _ _ h.2]
      simp only [Rep] at r ⊢
      obtain ⟨vs, rfl, hl⟩ := r
      refine ⟨vs, rfl, ?_⟩
      cases hv : vs.toList with
      | nil => rw [hv] at hl; simp [RepL] at hl
      | cons v0 l0 =>
        rw [hv] at hl
        simp only [RepL, Rep] at hl ⊢
        obtain ⟨⟨b, rfl, hb⟩, hr⟩ := hl
        exact ⟨⟨b, rfl, wkY_ok h.1 hb⟩, hr⟩
    · cases h
  · rw [← AV.beq_eq _ _ h]; exact r

theorem wkL_len : ∀ {l m : List AV}, wkL l m = true → l.length = m.length
  | [], [], _ => rfl
  | a :: l, b :: m, h => by simp only [wkL, Bool.and_eq_true] at h; simp [wkL_len h.2]
  | [], _ :: _, h => by simp [wkL] at h
  | _ :: _, [], h => by simp [wkL] at h

theorem wkL_get : ∀ {l m : List AV}, wkL l m = true → ∀ (i : Nat) (b : AV), m[i]? = some b → ∃ a, l[i]? = some a ∧ wkV a b = true
  | [], [], _, i, b, hb => by simp at hb
  | a :: l, b :: m, h, i, x, hx => by
    simp only [wkL, Bool.and_eq_true] at h
    cases i with
    | zero => simp only [List.getElem?_cons_zero, Option.some.injEq] at hx; subst hx; exact ⟨a, by simp, h.1⟩
    | succ i => simp only [List.getElem?_cons_succ] at hx ⊢; exact wkL_get h.2 i x hx
  | [], _ :: _, h, _, _, _ => by simp [wkL] at h
  | _ :: _, [], h, _, _, _ => by simp [wkL] at h

theorem wkM_ok {q : Nat} {μ : Mu} : ∀ {l m : List (AV × AV)} {es : List MapEntry}, wkM l m = true → MapR q μ l es → MapR q μ m es
  | [], [], _, _, r => r
  | a :: l, b :: m, e :: es, h, r => by
    simp only [wkM, Bool.and_eq_true] at h
    simp only [MapR] at r ⊢
    exact ⟨wkV_ok h.1.1 r.1, wkV_ok h.1.2 r.2.1, wkM_ok h.2 r.2.2⟩
  | _ :: _, _ :: _, [], _, r => by simp [MapR] at r
  | [], _ :: _, _, h, _ => by simp [wkM] at h
  | _ :: _, [], _, h, _ => by simp [wkM] at h

theorem wkB_ok {q : Nat} {μ : Mu} {a b : ABlk} {l : Loc} {o : Obj} (h : wkB a b = true) (r : Blk q μ a l o) : Blk q μ b l o := by
  unfold wkB at h
  split at h
  · split at h
    · rename_i et' cs' o' b' fz' sm' _ et cs o2 b2 fz sm
      simp only [Bool.and_eq_true] at h
      obtain ⟨⟨⟨⟨⟨h1, h2⟩, h3⟩, h4⟩, h5⟩, h6⟩ := h
      have e1 := beq_nat h1
      have e2 : o2 = o' := by simpa using h2
      have e3 : b2 = b' := by simpa using h3
      have e4 := beq_nat h4
      have e5 : sm = sm' := by simpa using h5
      subst e1 e2 e3 e4 e5
      obtain ⟨c, fr, r1, r2, r3, r4, r5, r6, r7⟩ := r
      have el := wkL_len h6
      refine ⟨c, fr, r1, r2, by omega, fun h => by rw [r4 h]; exact el, r5, ?_, r7⟩
      intro i a ha
      obtain ⟨a0, ha0, hw⟩ := wkL_get h6 i a ha
      obtain ⟨v, hv, hr⟩ := r6 i a0 ha0
      exact ⟨v, hv, wkV_ok hw hr⟩
    · cases h
  · split at h
    · obtain ⟨ents, clk, r1, r2⟩ := r
      exact ⟨ents, clk, r1, wkM_ok h r2⟩
    · cases h
  · cases h

theorem wkH_ok {h : T ABlk} : ∀ {l : List (Nat × ABlk)}, wkH h l = true → ∀ id b, (id, b) ∈ l → ∃ a, h.at_ id = some a ∧ wkB a b = true
  | [], _, _, _, hm => by simp at hm
  | (i, b0) :: l, hw, id, b, hm => by
    simp only [wkH, Bool.and_eq_true] at hw
    rcases List.mem_cons.1 hm with e | e
    · cases e
      have := hw.1
      split at this
      · rename_i a ha; exact ⟨a, ha, this⟩
      · cases this
    · exact wkH_ok hw.2 id b e

theorem mkH_at : ∀ {l : List (Nat × ABlk)} {id : Nat} {b : ABlk}, (mkH l).at_ id = some b → (id, b) ∈ l
  | [], id, b, h => by simp only [mkH, T.at_leaf] at h; cases h
  | (i, b0) :: l, id, b, h => by
    simp only [mkH, T.at_put] at h
    by_cases e : id = i
    · rw [if_pos e] at h; cases h; subst e; simp
    · rw [if_neg e] at h; exact List.mem_cons.2 (.inr (mkH_at h))

theorem wkO_none : wkO none none = true := rfl

theorem wkT_ok : ∀ (t t' : T AV), wkT t t' = true → ∀ n, wkO (t.get n) (t'.get n) = true
  | .leaf, .leaf, _, n => wkO_none
  | .node .., .leaf, h, _ => by simp [wkT] at h
  | .leaf, .node l v r, h, n => by
    simp only [wkT, Bool.and_eq_true] at h
    have h1 := wkT_ok .leaf l h.1.2 (Nat.div n 2)
    have h2 := wkT_ok .leaf r h.2 (Nat.div n 2)
    simp only [T.get] at h1 h2 ⊢
    cases Nat.beq n 1 with
    | true => exact h.1.1
    | false =>
      simp only [cond_false]
      cases Nat.beq (Nat.mod n 2) 0 with
      | true => exact h1
      | false => exact h2
  | .node l0 v0 r0, .node l v r, h, n => by
    simp only [wkT, Bool.and_eq_true] at h
    have h1 := wkT_ok l0 l h.1.2 (Nat.div n 2)
    have h2 := wkT_ok r0 r h.2 (Nat.div n 2)
    simp only [T.get]
    cases Nat.beq n 1 with
    | true => exact h.1.1
    | false =>
      simp only [cond_false]
      cases Nat.beq (Nat.mod n 2) 0 with
      | true => exact h1
      | false => exact h2

theorem wkS_ok {q : Nat} {s : St} {t : Scn} (h : wkS s t = true) : Wk q s t.st := by
  unfold wkS at h
  simp only [Bool.and_eq_true] at h
  obtain ⟨⟨⟨⟨h1, h2⟩, h3⟩, h4⟩, h5⟩ := h
  intro μ tmps df w r
  have hdf : s.df = [] := by
    cases hd : s.df with
    | nil => rfl
    | cons _ _ => rw [hd] at h2; cases h2
  refine ⟨r.size.trans (beq_nat h1), ?_, ?_, ⟨?_, ?_⟩, fun id hid => r.fresh id (Nat.le_trans (Nat.le_of_ble_eq_true h3) hid)⟩
  · intro i v hv
    exact wkV_ok (wkT_ok s.tm t.tm h4 (i + 1)) (r.tmp i v hv)
  · have := r.dfr
    rw [hdf] at this
    exact this
  · intro id b l hb hl
    obtain ⟨a, ha, hw⟩ := wkH_ok h5 id b (mkH_at hb)
    obtain ⟨o, h1, h2⟩ := r.heap.obj id a l ha hl
    exact ⟨o, h1, wkB_ok hw h2⟩
  · intro id id' l l' hi hi' m m' e
    have back : ∀ id, (mkH t.hs).at_ id ≠ none → s.h.at_ id ≠ none := by
      intro id hid
      cases hb : (mkH t.hs).at_ id with
      | none => exact absurd hb hid
      | some b => obtain ⟨a, ha, _⟩ := wkH_ok h5 id b (mkH_at hb); rw [ha]; simp
    exact r.heap.inj id id' l l' (back id hi) (back id' hi') m m' e

theorem allL_ok {p : Jump → St → Bool} : ∀ {l : Out}, allL p l = true → ∀ j s, (j, s) ∈ l → p j s = true
  | [], _, j, s, hm => by simp at hm
  | x :: l, h, j, s, hm => by
    simp only [allL, Bool.and_eq_true] at h
    rcases List.mem_cons.1 hm with e | e
    · cases e; exact h.1
    · exact allL_ok h.2 j s e

theorem allO_ok {p : Jump → St → Bool} {o : Option Out} (h : allO p o = true) : ∃ l, o = some l ∧ ∀ j s, (j, s) ∈ l → p j s = true := by
  cases o with
  | none => simp [allO] at h
  | some l => exact ⟨l, rfl, allL_ok h⟩

theorem upTo_ok {p : Nat → Bool} : ∀ {n : Nat}, upTo p n = true → ∀ k, k < n → p k = true
  | 0, _, k, hk => by omega
  | n + 1, h, k, hk => by
    simp only [upTo, Bool.and_eq_true] at h
    by_cases e : k = n
    · subst e; exact h.1
    · exact upTo_ok h.2 k (by omega)

end Go.Proofs.YtdkcihleblbkaaaGreatDoor.Eng
