/- A VERIFIED SYMBOLIC EXECUTOR, PARTS 26 TO 33. Lemmas that hold of every program. -/
import Derived.Test.YtdkcihleblbkaaaGreatDoorEc
import Derived.Orders
import Derived.Laws.BytesString
import Derived.Lib.UnsafeStr
import Derived.MapKept
/- A verified symbolic executor, part 26: regions that draw their order. The lemmas hold of every program; no project text. -/
namespace Go.Proofs.YtdkcihleblbkaaaGreatDoor.Eng
set_option linter.unusedVariables false
set_option linter.unusedSimpArgs false
set_option linter.unusedSectionVars false
open Go

/-! ### what binds, reckoned from the text -/
def edgeAnc (prev : List Nat) : List Edge → Option Nat
  | [] => some 0
  | e :: l => bif Region.binds .any e then (match prev[e.on]?, edgeAnc prev l with
      | some a, some s => some (Nat.lor (Nat.lor s (2 ^ e.on)) a)
      | _, _ => none) else edgeAnc prev l

def ancs (prev : List Nat) : List Oper → Option (List Nat)
  | [] => some prev
  | o :: l => match edgeAnc prev o.after.toList with
    | none => none
    | some a => ancs (prev ++ [a]) l

def apartRow (ops : Array Oper) (a : Nat) (oj : Oper) : List Oper → Nat → Bool
  | [], _ => true
  | o :: l, i => (Nat.testBit a i || o.apart ops oj) && apartRow ops a oj l (i + 1)

def apartAll (ops : Array Oper) : List Oper → List Oper → List Nat → Bool
  | done, o :: l, a :: as => apartRow ops a o done 0 && apartAll ops (done ++ [o]) l as
  | _, [], [] => true
  | _, _, _ => false

theorem testBit_lor (a b k : Nat) : Nat.testBit (Nat.lor a b) k = (Nat.testBit a k || Nat.testBit b k) := Nat.testBit_or a b k

theorem edgeAnc_spec {prev : List Nat} : ∀ {l : List Edge} {a : Nat}, edgeAnc prev l = some a →
    (∀ e ∈ l, Region.binds .any e = true → ∃ b, prev[e.on]? = some b ∧ Nat.testBit a e.on = true) ∧
    ∀ k, Nat.testBit a k = true → ∃ e ∈ l, Region.binds .any e = true ∧ (k = e.on ∨ ∃ b, prev[e.on]? = some b ∧ Nat.testBit b k = true)
  | [], a, h => by
    simp only [edgeAnc, Option.some.injEq] at h; subst h
    exact ⟨fun e he => by simp at he, fun k hk => by simp at hk⟩
  | e :: l, a, h => by
    simp only [edgeAnc] at h
    cases hb : Region.binds .any e with
    | false =>
      simp only [hb, cond_false] at h
      obtain ⟨h1, h2⟩ := edgeAnc_spec h
      refine ⟨fun e' he hb' => ?_, fun k hk => ?_⟩
      · rcases List.mem_cons.1 he with rfl | he
        · rw [hb] at hb'; cases hb'
        · exact h1 e' he hb'
      · obtain ⟨e', he, x⟩ := h2 k hk
        exact ⟨e', List.mem_cons.2 (.inr he), x⟩
    | true =>
      simp only [hb, cond_true] at h
      split at h
      · rename_i b s hp hs
        simp only [Option.some.injEq] at h; subst h
        obtain ⟨h1, h2⟩ := edgeAnc_spec hs
        refine ⟨fun e' he hb' => ?_, fun k hk => ?_⟩
        · rcases List.mem_cons.1 he with rfl | he
          · exact ⟨b, hp, by rw [testBit_lor, testBit_lor, Nat.testBit_two_pow_self]; simp⟩
          · obtain ⟨b', e1, e2⟩ := h1 e' he hb'
            exact ⟨b', e1, by rw [testBit_lor, testBit_lor, e2]; simp⟩
        · rw [testBit_lor, testBit_lor] at hk
          simp only [Bool.or_eq_true] at hk
          rcases hk with (hk | hk) | hk
          · obtain ⟨e', he, x⟩ := h2 k hk
            exact ⟨e', List.mem_cons.2 (.inr he), x⟩
          · rw [Nat.testBit_two_pow] at hk
            exact ⟨e, by simp, hb, .inl (by simpa using (of_decide_eq_true hk).symm)⟩
          · exact ⟨e, by simp, hb, .inr ⟨b, hp, hk⟩⟩
      · cases h

theorem ancs_spec : ∀ {l : List Oper} {prev A : List Nat}, ancs prev l = some A → A.length = prev.length + l.length ∧ (∀ i, i < prev.length → A[i]? = prev[i]?) ∧
    ∀ j o, l[j]? = some o → ∃ a, A[prev.length + j]? = some a ∧ edgeAnc (A.take (prev.length + j)) o.after.toList = some a
  | [], prev, A, h => by
    simp only [ancs, Option.some.injEq] at h; subst h
    exact ⟨by simp, fun _ _ => rfl, fun j o hj => by simp at hj⟩
  | o :: l, prev, A, h => by
    simp only [ancs] at h
    split at h
    · cases h
    · rename_i a ha
      obtain ⟨h1, h2, h3⟩ := ancs_spec h
      simp only [List.length_append, List.length_cons, List.length_nil] at h1 h2 h3
      have htake : A.take prev.length = prev := by
        apply List.ext_getElem?
        intro i
        rw [List.getElem?_take]
        by_cases hi : i < prev.length
        · rw [if_pos hi, h2 i (by omega), List.getElem?_append_left hi]
        · rw [if_neg hi, List.getElem?_eq_none (by omega)]
      refine ⟨by simp; omega, fun i hi => by rw [h2 i (by omega), List.getElem?_append_left hi], fun j o' hj => ?_⟩
      cases j with
      | zero =>
        simp only [List.getElem?_cons_zero, Option.some.injEq] at hj; subst hj
        refine ⟨a, ?_, ?_⟩
        · rw [Nat.add_zero, h2 prev.length (by omega), List.getElem?_append_right (Nat.le_refl _)]; simp
        · rw [Nat.add_zero, htake]; exact ha
      | succ j =>
        simp only [List.getElem?_cons_succ] at hj
        obtain ⟨a', e1, e2⟩ := h3 j o' hj
        exact ⟨a', by rw [show prev.length + (j + 1) = prev.length + 1 + j from by omega]; exact e1, by rw [show prev.length + (j + 1) = prev.length + 1 + j from by omega]; exact e2⟩

theorem apartRow_spec {ops : Array Oper} {a : Nat} {oj : Oper} : ∀ {l : List Oper} {i : Nat}, apartRow ops a oj l i = true → ∀ k o, l[k]? = some o → Nat.testBit a (i + k) = true ∨ o.apart ops oj = true
  | [], _, _, k, o, hk => by simp at hk
  | o' :: l, i, h, k, o, hk => by
    simp only [apartRow, Bool.and_eq_true, Bool.or_eq_true] at h
    cases k with
    | zero => simp only [List.getElem?_cons_zero, Option.some.injEq] at hk; subst hk; simpa using h.1
    | succ k =>
      simp only [List.getElem?_cons_succ] at hk
      have := apartRow_spec h.2 k o hk
      rwa [show i + 1 + k = i + (k + 1) from by omega] at this

theorem apartAll_spec {ops : Array Oper} : ∀ {l done : List Oper} {as : List Nat}, apartAll ops done l as = true → ∀ j o, l[j]? = some o → ∀ k o', (done ++ l)[k]? = some o' → k < done.length + j → Nat.testBit (as.getD j 0) k = true ∨ o'.apart ops o = true
  | [], _, _, _, j, o, hj => by simp at hj
  | o1 :: l, done, [], h, _, _, _ => by simp [apartAll] at h
  | o1 :: l, done, a :: as, h, j, o, hj => by
    simp only [apartAll, Bool.and_eq_true] at h
    intro k o' hk hlt
    cases j with
    | zero =>
      simp only [List.getElem?_cons_zero, Option.some.injEq] at hj; subst hj
      rw [List.getElem?_append_left (by omega)] at hk
      have := apartRow_spec h.1 k o' hk
      simpa using this
    | succ j =>
      simp only [List.getElem?_cons_succ] at hj
      have := apartAll_spec h.2 j o hj k o' (by simpa using hk) (by simp; omega)
      simpa using this

/-! ### the run in the text's order, with what is asked of each operation -/
inductive Kd where
  | p | r | w
  deriving DecidableEq

def heapish : Op → Bool
  | .move _ | .assign _ | .pick .. | .nilCheck _ | .binOp .. | .unOp .. | .makeInterface .. | .makeFunc .. | .build .. | .field .. | .fieldAddr .. | .indexAddr .. | .index .. | .extract .. => false
  | _ => true

/-- may it be run as one that writes: is it comparable with all that are at the heap? -/
def freeB (i a : Nat) : List Oper → List Nat → Nat → Bool
  | o :: l, b :: bs, j => (!heapish o.op || (bif Nat.blt j i then Nat.testBit a j else bif Nat.beq j i then true else Nat.testBit b i)) && freeB i a l bs (j + 1)
  | _, _, _ => true

def tagAll (ops : List Oper) (A : List Nat) : List Oper → List Nat → Nat → List (Oper × Nat × Bool)
  | o :: l, a :: as, i => (o, a, freeB i a ops A 0) :: tagAll ops A l as (i + 1)
  | _, _, _ => []

/-- an operation's place, kind by kind: none: the text's order is not known to serve -/
def tags (ops : Array Oper) : Option (List (Oper × Nat × Bool)) :=
  match ancs [] ops.toList with
  | none => none
  | some A => bif apartAll ops [] ops.toList A then some (tagAll ops.toList A ops.toList A 0) else none

def sub (H a : Nat) : Bool := Nat.beq (Nat.lor H a) a

section
variable (pr : (Operand → Option AV) → Oper → Option AV) (hp : St → (Operand → Option AV) → Oper → Option Ret) (ops : Array Oper)

def reader (st : St) : St := { st with ro := st.nx, wl := [], mw := st.nx }
def unread (st s : St) : St := { s with ro := st.ro, wl := st.wl, mw := st.mw }

def stepD (o : Oper) (a : Nat) (free : Bool) (H W : Nat) (st : St) : Option (Kd × St) :=
  match guardA ops st o with
  | none => none
  | some false => (match st.putD o.dst undefA with
    | none => none
    | some s => some (.p, s))
  | some true => match pr (ev st) o with
    | some v => (match st.putD o.dst v with
      | none => none
      | some s => some (.p, s))
    | none => bif free then
        (bif sub H a then (match hp st (ev st) o with
          | some [(v, s1)] => (match s1.putD o.dst v with
            | none => none
            | some s => some (.w, s))
          | _ => none) else none)
      else bif sub W a then (match hp (reader st) (ev st) o with
          | some [(v, s1)] => bif Nat.ble st.nx s1.mw then (match (unread st s1).putD o.dst v with
            | none => none
            | some s => some (.r, s)) else none
          | _ => none) else none

def runD : List (Oper × Nat × Bool) → Nat → Nat → Nat → St → Option St
  | [], _, _, _, st => some st
  | (o, a, fr) :: l, i, H, W, st => match stepD pr hp ops o a fr H W st with
    | none => none
    | some (.p, s) => runD l (i + 1) H W s
    | some (.r, s) => runD l (i + 1) (Nat.lor H (2 ^ i)) W s
    | some (.w, s) => runD l (i + 1) (Nat.lor H (2 ^ i)) (Nat.lor W (2 ^ i)) s

def drawnA (st : St) : Option (List St) :=
  match tags ops with
  | none => none
  | some l => match runD pr hp ops l 0 0 0 st with
    | none => none
    | some s => some [s]
end

end Go.Proofs.YtdkcihleblbkaaaGreatDoor.Eng

/- A verified symbolic executor, part 27: regions that draw their order: one operation. The lemmas hold of every program; no project text. -/
namespace Go.Proofs.YtdkcihleblbkaaaGreatDoor.Eng
set_option linter.unusedVariables false
set_option linter.unusedSimpArgs false
set_option linter.unusedSectionVars false
open Go

theorem tagAll_spec {ops : List Oper} {B : List Nat} : ∀ {l : List Oper} {A : List Nat} {i : Nat}, l.length = A.length → (tagAll ops B l A i).length = l.length ∧
    ∀ (j : Nat) (o : Oper), l[j]? = some o → ∃ (a : Nat) (fr : Bool), A[j]? = some a ∧ (tagAll ops B l A i)[j]? = some (o, a, fr)
  | [], [], _, _ => by simp [tagAll]
  | o :: l, a :: A, i, h => by
    obtain ⟨h1, h2⟩ := tagAll_spec (ops := ops) (B := B) (l := l) (A := A) (i := i + 1) (by simpa using h)
    refine ⟨by simp [tagAll, h1], fun j o' hj => ?_⟩
    cases j with
    | zero => simp at hj; subst hj; exact ⟨a, _, by simp, by simp only [tagAll, List.getElem?_cons_zero]; rfl⟩
    | succ j => simp at hj; obtain ⟨a', fr, e1, e2⟩ := h2 j o' hj; exact ⟨a', fr, by simpa using e1, by simpa [tagAll] using e2⟩
  | [], _ :: _, _, h => by simp at h
  | _ :: _, [], _, h => by simp at h

/-- what the text says of a region's order -/
structure Statics (ops : Array Oper) (A : Nat → Nat) : Prop where
  bef : ∀ (j : Nat) (o : Oper), ops[j]? = some o → ∀ e ∈ o.after.toList, Region.binds .any e = true → e.on < j ∧ Nat.testBit (A j) e.on = true
  cl : ∀ (j : Nat) (o : Oper), ops[j]? = some o → ∀ k, Nat.testBit (A j) k = true → ∃ e ∈ o.after.toList, Region.binds .any e = true ∧ (k = e.on ∨ Nat.testBit (A e.on) k = true)
  ap : ∀ (j : Nat) (o : Oper), ops[j]? = some o → ∀ (k : Nat) (o' : Oper), ops[k]? = some o' → k < j → Nat.testBit (A j) k = true ∨ o'.apart ops o = true

theorem tags_spec {ops : Array Oper} {l : List (Oper × Nat × Bool)} (h : tags ops = some l) : l.length = ops.size ∧ ∃ A : Nat → Nat, Statics ops A ∧ ∀ (j : Nat) (o : Oper), ops[j]? = some o → ∃ fr, l[j]? = some (o, A j, fr) := by
  unfold tags at h
  cases ha : ancs [] ops.toList with
  | none => simp [ha] at h
  | some A =>
    simp only [ha] at h
    cases hp : apartAll ops [] ops.toList A with
    | false => simp [hp] at h
    | true =>
      simp only [hp, cond_true, Option.some.injEq] at h
      subst h
      obtain ⟨h1, _, h3⟩ := ancs_spec ha
      simp only [List.length_nil, Nat.zero_add, Array.length_toList] at h1 h3
      obtain ⟨t1, t2⟩ := tagAll_spec (ops := ops.toList) (B := A) (l := ops.toList) (A := A) (i := 0) (by simp [h1])
      refine ⟨by simpa using t1, fun j => A.getD j 0, ⟨fun j o ho e he hb => ?_, fun j o ho k hk => ?_, fun j o ho k o' hk hlt => ?_⟩, fun j o ho => ?_⟩
      · obtain ⟨a, a1, a2⟩ := h3 j o (by simpa using ho)
        obtain ⟨b, b1, b2⟩ := (edgeAnc_spec a2).1 e he hb
        rw [List.getElem?_take] at b1
        by_cases hlt : e.on < j
        · exact ⟨hlt, by simp only [List.getD_eq_getElem?_getD, a1, Option.getD_some]; exact b2⟩
        · rw [if_neg hlt] at b1; cases b1
      · obtain ⟨a, a1, a2⟩ := h3 j o (by simpa using ho)
        simp only [List.getD_eq_getElem?_getD, a1, Option.getD_some] at hk
        obtain ⟨e, he, hb, hx⟩ := (edgeAnc_spec a2).2 k hk
        refine ⟨e, he, hb, hx.imp _root_.id fun ⟨b, b1, b2⟩ => ?_⟩
        rw [List.getElem?_take] at b1
        by_cases hlt : e.on < j
        · rw [if_pos hlt] at b1
          simp only [List.getD_eq_getElem?_getD, b1, Option.getD_some]; exact b2
        · rw [if_neg hlt] at b1; cases b1
      · exact apartAll_spec hp j o (by simpa using ho) k o' (by simpa using hk) (by simpa using hlt)
      · obtain ⟨a, fr, e1, e2⟩ := t2 j o (by simpa using ho)
        exact ⟨fr, by simp only [List.getD_eq_getElem?_getD, e1, Option.getD_some]; exact e2⟩

theorem sub_spec {H a k : Nat} (h : sub H a = true) (hk : Nat.testBit H k = true) : Nat.testBit a k = true := by
  have := Nat.eq_of_beq_eq_true h
  rw [← this, testBit_lor, hk]; rfl

section
variable {pr : (Operand → Option AV) → Oper → Option AV} {hp : St → (Operand → Option AV) → Oper → Option Ret} {ops : Array Oper}

/-- what an operation did in the text's order -/
inductive StepD (pr : (Operand → Option AV) → Oper → Option AV) (hp : St → (Operand → Option AV) → Oper → Option Ret) (ops : Array Oper) (o : Oper) (s s' : St) : Kd → AV → Prop where
  | skip (hg : guardA ops s o = some false) (h : s.putD o.dst undefA = some s') : StepD pr hp ops o s s' .p undefA
  | pure (v : AV) (hg : guardA ops s o = some true) (hv : pr (ev s) o = some v) (h : s.putD o.dst v = some s') : StepD pr hp ops o s s' .p v
  | read (v : AV) (s1 : St) (hg : guardA ops s o = some true) (hv : hp (reader s) (ev s) o = some [(v, s1)]) (hm : s.nx ≤ s1.mw) (h : (unread s s1).putD o.dst v = some s') : StepD pr hp ops o s s' .r v
  | write (v : AV) (s1 : St) (hg : guardA ops s o = some true) (hv : hp s (ev s) o = some [(v, s1)]) (h : s1.putD o.dst v = some s') : StepD pr hp ops o s s' .w v

theorem stepD_out {o : Oper} {a : Nat} {free : Bool} {H W : Nat} {s s' : St} {k : Kd} (h : stepD pr hp ops o a free H W s = some (k, s')) :
    ∃ v, StepD pr hp ops o s s' k v ∧ (k = .r → sub W a = true) ∧ (k = .w → sub H a = true) := by
  unfold stepD at h
  split at h
  · cases h
  · rename_i hg
    split at h
    · cases h
    · rename_i s1 hp1
      simp only [Option.some.injEq, Prod.mk.injEq] at h
      obtain ⟨rfl, rfl⟩ := h
      exact ⟨_, .skip hg hp1, (fun h => nomatch h), (fun h => nomatch h)⟩
  · rename_i hg
    split at h
    · rename_i v hv
      split at h
      · cases h
      · rename_i s1 hp1
        simp only [Option.some.injEq, Prod.mk.injEq] at h
        obtain ⟨rfl, rfl⟩ := h
        exact ⟨_, .pure v hg hv hp1, (fun h => nomatch h), (fun h => nomatch h)⟩
    · cases free with
      | true =>
        simp only [cond_true] at h
        cases hs : sub H a with
        | false => simp [hs] at h
        | true =>
          simp only [hs, cond_true] at h
          split at h
          · rename_i v s1 hv
            split at h
            · cases h
            · rename_i s2 hp1
              simp only [Option.some.injEq, Prod.mk.injEq] at h
              obtain ⟨rfl, rfl⟩ := h
              exact ⟨_, .write v s1 hg hv hp1, (fun h => nomatch h), fun _ => rfl⟩
          · cases h
      | false =>
        simp only [cond_false] at h
        cases hs : sub W a with
        | false => simp [hs] at h
        | true =>
          simp only [hs, cond_true] at h
          split at h
          · rename_i v s1 hv
            cases hb : Nat.ble s.nx s1.mw with
            | false => simp [hb] at h
            | true =>
              simp only [hb, cond_true] at h
              split at h
              · cases h
              · rename_i s2 hp1
                simp only [Option.some.injEq, Prod.mk.injEq] at h
                obtain ⟨rfl, rfl⟩ := h
                exact ⟨_, .read v s1 hg hv (by simpa using hb) hp1, fun _ => rfl, (fun h => nomatch h)⟩
          · cases h

theorem runD_out : ∀ (l : List (Oper × Nat × Bool)) (i H W : Nat) (st st' : St), runD pr hp ops l i H W st = some st' →
    ∃ (S : Nat → St) (kd : Nat → Kd) (av : Nat → AV), S i = st ∧ S (i + l.length) = st' ∧ ∀ m o a fr, l[m]? = some (o, a, fr) → StepD pr hp ops o (S (i + m)) (S (i + m + 1)) (kd (i + m)) (av (i + m)) ∧
      (kd (i + m) = .r → ∀ j, (Nat.testBit W j = true ∨ (i ≤ j ∧ j < i + m ∧ kd j = .w)) → Nat.testBit a j = true) ∧
      (kd (i + m) = .w → ∀ j, (Nat.testBit H j = true ∨ (i ≤ j ∧ j < i + m ∧ kd j ≠ .p)) → Nat.testBit a j = true)
  | [], i, H, W, st, st', h => by
    simp only [runD, Option.some.injEq] at h; subst h
    exact ⟨fun _ => st, fun _ => .p, fun _ => .any, rfl, rfl, fun m o a fr hm => by simp at hm⟩
  | (o, a, fr) :: l, i, H, W, st, st', h => by
    simp only [runD] at h
    cases hs : stepD pr hp ops o a fr H W st with
    | none => simp [hs] at h
    | some x =>
      obtain ⟨k, s⟩ := x
      simp only [hs] at h
      obtain ⟨v, hv, hR, hW⟩ := stepD_out hs
      -- the rest, from masks that hold what they held and, as the kind is, this one
      have key : ∀ H' W', runD pr hp ops l (i + 1) H' W' s = some st' → (∀ j, Nat.testBit H j = true → Nat.testBit H' j = true) → (∀ j, Nat.testBit W j = true → Nat.testBit W' j = true) →
          (k ≠ .p → Nat.testBit H' i = true) → (k = .w → Nat.testBit W' i = true) →
          ∃ (S : Nat → St) (kd : Nat → Kd) (av : Nat → AV), S i = st ∧ S (i + ((o, a, fr) :: l).length) = st' ∧ ∀ m o' a' fr', ((o, a, fr) :: l)[m]? = some (o', a', fr') → StepD pr hp ops o' (S (i + m)) (S (i + m + 1)) (kd (i + m)) (av (i + m)) ∧
            (kd (i + m) = .r → ∀ j, (Nat.testBit W j = true ∨ (i ≤ j ∧ j < i + m ∧ kd j = .w)) → Nat.testBit a' j = true) ∧
            (kd (i + m) = .w → ∀ j, (Nat.testBit H j = true ∨ (i ≤ j ∧ j < i + m ∧ kd j ≠ .p)) → Nat.testBit a' j = true) := by
        intro H' W' hrun mH mW hH' hW'
        obtain ⟨S, kd, av, h1, h2, h3⟩ := runD_out l (i + 1) H' W' s st' hrun
        refine ⟨fun j => if j = i then st else S j, fun j => if j = i then k else kd j, fun j => if j = i then v else av j, by simp, ?_, ?_⟩
        · simp only [List.length_cons]
          rw [if_neg (by omega), ← h2]; congr 1; omega
        · intro m o' a' fr' hm
          cases m with
          | zero =>
            simp only [List.getElem?_cons_zero, Option.some.injEq, Prod.mk.injEq] at hm
            obtain ⟨rfl, rfl, rfl⟩ := hm
            simp only [Nat.add_zero, if_true]
            rw [if_neg (by omega), h1]
            exact ⟨hv, fun hk j hj => sub_spec (hR hk) (by rcases hj with hj | hj; exact hj; omega), fun hk j hj => sub_spec (hW hk) (by rcases hj with hj | hj; exact hj; omega)⟩
          | succ m =>
            simp only [List.getElem?_cons_succ] at hm
            obtain ⟨g1, g2, g3⟩ := h3 m o' a' fr' hm
            have e1 : i + (m + 1) = i + 1 + m := by omega
            rw [e1]
            have n1 : ¬ (i + 1 + m = i) := by omega
            have n2 : ¬ (i + 1 + m + 1 = i) := by omega
            simp only [n1, n2, if_false]
            refine ⟨g1, fun hk j hj => g2 hk j ?_, fun hk j hj => g3 hk j ?_⟩
            · rcases hj with hj | ⟨h1, h2, h3⟩
              · exact .inl (mW j hj)
              · by_cases hji : j = i
                · subst hji; rw [if_pos rfl] at h3; exact .inl (hW' h3)
                · rw [if_neg hji] at h3; exact .inr ⟨by omega, by omega, h3⟩
            · rcases hj with hj | ⟨h1, h2, h3⟩
              · exact .inl (mH j hj)
              · by_cases hji : j = i
                · subst hji; rw [if_pos rfl] at h3; exact .inl (hH' h3)
                · rw [if_neg hji] at h3; exact .inr ⟨by omega, by omega, h3⟩
      have hup : ∀ X j, Nat.testBit X j = true → Nat.testBit (Nat.lor X (2 ^ i)) j = true := fun X j hj => by rw [testBit_lor, hj]; rfl
      have hi : ∀ X, Nat.testBit (Nat.lor X (2 ^ i)) i = true := fun X => by rw [testBit_lor, Nat.testBit_two_pow_self]; simp
      cases k with
      | p => exact key H W h (fun _ h => h) (fun _ h => h) (fun h => absurd rfl h) (fun h => nomatch h)
      | r => exact key _ W h (hup H) (fun _ h => h) (fun _ => hi H) (fun h => nomatch h)
      | w => exact key _ _ h (hup H) (hup W) (fun _ => hi H) (fun _ => hi W)
end

/-! ### one operation, wherever it stands in the order -/
/-- pure operations -/
def PrOk (P : Program) (q : Nat) (pr : (Operand → Option AV) → Oper → Option AV) : Prop :=
  ∀ e o a, pr e o = some a → ∀ μ w ρ, EvOk q μ e ρ → OpDoes P o ρ w fun v w' => w' = w ∧ Rep q μ a v

/-- what is asked of an operation is its operands alone -/
def Cong {α : Type} (op : (Operand → Option AV) → Oper → Option α) : Prop := ∀ e e' o, (∀ x ∈ o.op.operands, e x = e' x) → op e o = op e' o

/-- the part of a state that no world shows -/
structure AbsD (s s' : St) : Prop where
  nx : s.nx ≤ s'.nx
  n : s'.n = s.n
  df : s'.df = s.df
  ro : s'.ro = s.ro
  wl : s'.wl = s.wl
  mw : s'.mw ≤ s.mw
  live : ∀ id, id < s.nx → s'.h.at_ id ≠ none → s.h.at_ id ≠ none
  keep : ∀ id, id < s.nx → id < s'.mw → s'.h.at_ id = s.h.at_ id

theorem AbsD.refl (s : St) : AbsD s s := ⟨Nat.le_refl _, rfl, rfl, rfl, rfl, Nat.le_refl _, fun _ _ h => h, fun _ _ _ => rfl⟩
theorem AbsD.trans {a b c : St} (h : AbsD a b) (k : AbsD b c) : AbsD a c where
  nx := Nat.le_trans h.nx k.nx
  n := k.n.trans h.n
  df := k.df.trans h.df
  ro := k.ro.trans h.ro
  wl := k.wl.trans h.wl
  mw := Nat.le_trans k.mw h.mw
  live := fun id hid x => h.live id hid (k.live id (Nat.lt_of_lt_of_le hid h.nx) x)
  keep := fun id hid x => (k.keep id (Nat.lt_of_lt_of_le hid h.nx) x).trans (h.keep id hid (Nat.lt_of_lt_of_le x k.mw))

theorem putD_shape {s s' : St} {d : Option Nat} {a : AV} (h : s.putD d a = some s') :
    s'.h = s.h ∧ s'.nx = s.nx ∧ s'.n = s.n ∧ s'.df = s.df ∧ s'.ro = s.ro ∧ s'.wl = s.wl ∧ s'.mw = s.mw ∧ (∀ t, d = some t → s'.tm.at_ t = some a) ∧ (∀ t, d ≠ some t → s'.tm.at_ t = s.tm.at_ t) := by
  cases d with
  | none =>
    simp only [St.putD, Option.some.injEq] at h; subst h
    exact ⟨rfl, rfl, rfl, rfl, rfl, rfl, rfl, (fun t h => nomatch h), fun _ _ => rfl⟩
  | some d =>
    simp only [St.putD] at h
    cases hb : Nat.blt d s.n with
    | false => simp [hb] at h
    | true =>
      simp only [hb, cond_true, T.seq_eq, Option.some.injEq] at h
      subst h
      refine ⟨rfl, rfl, rfl, rfl, rfl, rfl, rfl, fun t ht => ?_, fun t ht => ?_⟩
      · cases ht; simp [T.at_put]
      · rw [T.at_put, if_neg (fun e => ht (by rw [e]))]

/-- What one operation does, from what is known of the temporaries that it looks at alone. -/
theorem stepD_ok {P : Program} {q : Nat} {pr : (Operand → Option AV) → Oper → Option AV} {hp : St → (Operand → Option AV) → Oper → Option Ret} (hpr : PrOk P q pr) (hhp : OpOk P q hp) (hcp : Cong pr) (hch : ∀ st, Cong (hp st))
    {ops : Array Oper} {o : Oper} {s s' : St} {kd : Kd} {a : AV} (h : StepD pr hp ops o s s' kd a) {f : FuncId} {r : Option Nat} {i : Nat} (ho : ops[i]? = some o) {μ : Mu} {tmps : Array Value} {w : World}
    (hn : tmps.size = s.n) (hl : ∀ t ∈ o.looksAt ops, ∀ v, tmps[t]? = some v → Rep q μ ((s.tm.at_ t).getD undefA) v) (hr : kd ≠ .p → HRep q μ s.h w) (hf : ∀ id, s.nx ≤ id → μ id = none) (df : List Deferred) (rest : List Nat) (k : List Item) (cs : List Frame) :
    ∃ v μ' w', Rep q μ' a v ∧ Good μ s w μ' s' w' ∧ ((kd ≠ .p ∨ HRep q μ s.h w) → HRep q μ' s'.h w') ∧ (∀ id, s'.nx ≤ id → μ' id = none) ∧ AbsD s s' ∧ (kd ≠ .w → (∀ id, id < s.nx → s'.h.at_ id = s.h.at_ id)) ∧ (kd = .p → s'.nx = s.nx) ∧
      (kd ≠ .w → (∀ b, b < w.heap.size → w'.heap[b]? = w.heap[b]?) ∧ ∀ id l, μ' id = some l → μ id = none → w.heap.size ≤ l.blk) ∧ (∀ t, o.dst ≠ some t → s'.tm.at_ t = s.tm.at_ t) ∧ (∀ t, o.dst = some t → s'.tm.at_ t = some a) ∧
      Steps P (lone (mk f r tmps df (.inRegion ops (i :: rest) :: k)) cs w) (lone (mk f r (putV o.dst tmps v) df (.inRegion ops rest :: k)) cs w') := by
  -- the frame that stands at the operation
  let fr := mk f r tmps df (.inRegion ops (i :: rest) :: k)
  have hfin : ∀ v, fr.finish v = mk f r (putV o.dst tmps v) df (.inRegion ops rest :: k) := fun v => finish_mk ho
  -- what the guard says
  have hguard : ∀ b, guardA ops s o = some b → Region.wanted o (yielded ops tmps) = b := by
    intro b hb
    unfold guardA at hb
    unfold Region.wanted
    cases hg : o.guard with
    | none => simp [hg] at hb; subst hb; rfl
    | some g =>
      obtain ⟨j, want⟩ := g
      simp only [hg] at hb ⊢
      cases hd : (ops[j]?).bind (·.dst) with
      | none => simp [hd] at hb; subst hb; simp [yielded, hd]
      | some d =>
        simp only [hd] at hb
        cases hbl : Nat.blt d s.n with
        | false => simp [hbl] at hb
        | true =>
          have hlt : d < tmps.size := by rw [hn]; exact blt_lt hbl
          have hv : tmps[d]? = some tmps[d] := Array.getElem?_eq_getElem hlt
          have hrep := hl d (by simp [Oper.looksAt, hg, hd]) _ hv
          simp only [hbl, cond_true] at hb
          split at hb
          · rename_i b' hb'
            rw [hb'] at hrep
            simp only [Rep] at hrep
            simp only [Option.some.injEq] at hb
            subst hb
            simp [yielded, hd, hv, hrep]
          · rename_i hb'
            rw [hb'] at hrep
            simp only [Rep] at hrep
            obtain ⟨vs, hvs, _⟩ := hrep
            simp only [Option.some.injEq] at hb
            subst hb
            simp [yielded, hd, hv, hvs]
          · cases hb
  -- the reading of the operands
  classical
  let e' : Operand → Option AV := fun x => if x ∈ o.op.operands.toList then ev s x else none
  have he' : ∀ x ∈ o.op.operands, ev s x = e' x := fun x hx => by simp only [e']; rw [if_pos (by simpa using hx)]
  have hev : EvOk q μ e' fr.eval := by
    intro x b hb
    simp only [e'] at hb
    by_cases hx : x ∈ o.op.operands.toList
    · rw [if_pos hx] at hb
      cases x with
      | tmp t =>
        simp only [ev] at hb
        cases hbl : Nat.blt t s.n with
        | false => simp [hbl] at hb
        | true =>
          simp only [hbl, cond_true, Option.some.injEq] at hb
          have hlt : t < tmps.size := by rw [hn]; exact blt_lt hbl
          have hv : tmps[t]? = some tmps[t] := Array.getElem?_eq_getElem hlt
          have := hl t (List.mem_append_left _ (List.mem_filterMap.2 ⟨.tmp t, hx, rfl⟩)) _ hv
          rw [hb] at this
          simp only [fr, mk, Frame.eval, Array.getD, hlt, dite_true]
          exact this
      | const v => exact ofVal_rep hb
      | global g => simp [ev] at hb
      | func g =>
        simp only [ev, Option.some.injEq] at hb
        subst hb
        simp only [Rep, Frame.eval]
        exact ⟨#[], #[], rfl, by simp [RepL], by simp [RepL]⟩
    · rw [if_neg hx] at hb; cases hb
  have hat : guardA ops s o = some true → AtOp o fr := fun hg => ⟨ops, i, rest, k, rfl, ho, hguard _ hg, rfl, rfl⟩
  cases h with
  | skip hg hput =>
    obtain ⟨p1, p2, p3, p4, p5, p6, p7, p8, p9⟩ := putD_shape hput
    have hst := st_opSkip (P := P) (f := f) (r := r) (tmps := tmps) (df := df) (k := k) (cs := cs) (w := w) (ops := ops) (i := i) (rest := rest) (by simp [ho, hguard _ hg])
    refine ⟨undef, μ, w, by simp only [undefA, undef, Rep]; exact ⟨#[], rfl, by simp [RepL]⟩, (Good.refl μ s w).to_tmps p1 p2 p5 p6 p7, (fun h => by rw [p1]; rcases h with h | h; exact absurd rfl h; exact h), by rw [p2]; exact hf,
      ⟨by omega, p3, p4, p5, p6, by omega, fun id _ h => by rwa [p1] at h, fun id _ _ => by rw [p1]⟩, fun _ id _ => by rw [p1], fun _ => p2, fun _ => ⟨fun _ _ => rfl, fun _ _ h1 h2 => by rw [h2] at h1; cases h1⟩, p9, p8, ?_⟩
    rw [finish_mk ho] at hst
    exact .one hst
  | pure v hg hv hput =>
    obtain ⟨p1, p2, p3, p4, p5, p6, p7, p8, p9⟩ := putD_shape hput
    rw [hcp _ e' o he'] at hv
    obtain ⟨x, w', ⟨rfl, hx⟩, hsteps⟩ := hpr e' o a hv μ w fr.eval hev fr cs (hat hg) (fun _ => rfl)
    rw [hfin] at hsteps
    exact ⟨x, μ, w', hx, (Good.refl μ s w').to_tmps p1 p2 p5 p6 p7, (fun h => by rw [p1]; rcases h with h | h; exact absurd rfl h; exact h), by rw [p2]; exact hf,
      ⟨by omega, p3, p4, p5, p6, by omega, fun id _ h => by rwa [p1] at h, fun id _ _ => by rw [p1]⟩, fun _ id _ => by rw [p1], fun _ => p2, fun _ => ⟨fun _ _ => rfl, fun _ _ h1 h2 => by rw [h2] at h1; cases h1⟩, p9, p8, hsteps⟩
  | read v s1 hg hv hm hput =>
    obtain ⟨p1, p2, p3, p4, p5, p6, p7, p8, p9⟩ := putD_shape hput
    rw [hch _ _ e' o he'] at hv
    obtain ⟨x, w', ⟨b, s2, hm2, μ', hrep, hgood, hheap, hfresh, hk⟩, hsteps⟩ := hhp (reader s) e' o _ hv μ w fr.eval (hr (by simp)) hf hev fr cs (hat hg) (fun _ => rfl)
    rw [hfin] at hsteps
    simp only [List.mem_singleton, Prod.mk.injEq] at hm2
    obtain ⟨rfl, rfl⟩ := hm2
    have hnw : ∀ c, ¬ Wr μ (reader s) c := by
      rintro c ⟨id, l, _, h2, h3, _⟩
      simp only [St.canW, reader, Bool.or_eq_true, Nat.ble_eq, List.contains_nil, Bool.false_eq_true, or_false] at h2
      rw [hf id h2] at h3; cases h3
    have hnew : ∀ id l, μ' id = some l → μ id = none → w.heap.size ≤ l.blk := fun id l h1 h2 => (hgood.new id l h1 h2).resolve_right (hnw _)
    have hfr : ∀ c, c < w.heap.size → w'.heap[c]? = w.heap[c]? := fun c hc => hgood.frame c hc (hnw c)
    have hkeep : ∀ id, id < s.nx → s2.h.at_ id = s.h.at_ id := fun id hid => hgood.keep id hid (Nat.lt_of_lt_of_le hid hm)
    have hg2 : Good μ s w μ' (unread s s2) w' := ⟨hgood.ext, hgood.nx, rfl, rfl, Nat.le_refl _, hgood.os, hgood.tape, hgood.output, hgood.size, fun c hc _ => hfr c hc, fun id l h1 h2 => .inl (hnew id l h1 h2), hgood.live, fun id hid _ => hkeep id hid, hgood.low⟩
    refine ⟨x, μ', w', hrep, hg2.to_tmps p1 p2 p5 p6 p7, (fun _ => by rw [p1]; exact hheap), by rw [p2]; exact hfresh, ?_, fun _ id hid => by rw [p1]; exact hkeep id hid, (fun h => nomatch h), fun _ => ⟨hfr, hnew⟩, fun t ht => ?_, p8, hsteps⟩
    · exact ⟨by rw [p2]; exact hgood.nx, by rw [p3]; exact hk.n, by rw [p4]; exact hk.df, by rw [p5]; rfl, by rw [p6]; rfl, by rw [p7]; exact Nat.le_refl _, fun id hid h => hgood.live id hid (by rwa [p1] at h), fun id hid _ => by rw [p1]; exact hkeep id hid⟩
    · rw [p9 t ht]
      show s2.tm.at_ t = _
      rw [hk.tm]; rfl
  | write v s1 hg hv hput =>
    obtain ⟨p1, p2, p3, p4, p5, p6, p7, p8, p9⟩ := putD_shape hput
    rw [hch _ _ e' o he'] at hv
    obtain ⟨x, w', ⟨b, s2, hm2, μ', hrep, hgood, hheap, hfresh, hk⟩, hsteps⟩ := hhp s e' o _ hv μ w fr.eval (hr (by simp)) hf hev fr cs (hat hg) (fun _ => rfl)
    rw [hfin] at hsteps
    simp only [List.mem_singleton, Prod.mk.injEq] at hm2
    obtain ⟨rfl, rfl⟩ := hm2
    refine ⟨x, μ', w', hrep, hgood.to_tmps p1 p2 p5 p6 p7, (fun _ => by rw [p1]; exact hheap), by rw [p2]; exact hfresh, ?_, fun h => absurd rfl h, (fun h => nomatch h), fun h => absurd rfl h, fun t ht => by rw [p9 t ht, hk.tm], p8, hsteps⟩
    exact ⟨by rw [p2]; exact hgood.nx, by rw [p3]; exact hk.n, by rw [p4]; exact hk.df, by rw [p5]; exact hgood.ro, by rw [p6]; exact hgood.wl, by rw [p7]; exact hgood.mw, fun id hid h => hgood.live id hid (by rwa [p1] at h), fun id hid h => by rw [p1]; exact hgood.keep id hid (by rwa [p7] at h)⟩

end Go.Proofs.YtdkcihleblbkaaaGreatDoor.Eng

/- A verified symbolic executor, part 28: regions that draw their order, whole. The lemmas hold of every program; no project text. -/
namespace Go.Proofs.YtdkcihleblbkaaaGreatDoor.Eng
set_option linter.unusedVariables false
set_option linter.unusedSimpArgs false
set_option linter.unusedSectionVars false
open Go

/-- a map as far as a number -/
def cutM (μ : Mu) (N : Nat) : Mu := fun id => if id < N then μ id else none
theorem cutM_ext (μ : Mu) (N : Nat) : Ext (cutM μ N) μ := fun id l h => by
  unfold cutM at h
  by_cases e : id < N
  · rwa [if_pos e] at h
  · rw [if_neg e] at h; cases h
theorem cutM_some {μ : Mu} {N id : Nat} {l : Loc} (h : cutM μ N id = some l) : id < N ∧ μ id = some l := by
  unfold cutM at h
  by_cases e : id < N
  · rw [if_pos e] at h; exact ⟨e, h⟩
  · rw [if_neg e] at h; cases h
theorem cutM_lt {μ : Mu} {N id : Nat} (h : id < N) : cutM μ N id = μ id := by unfold cutM; rw [if_pos h]
theorem cutM_ge {μ : Mu} {N id : Nat} (h : N ≤ id) : cutM μ N id = none := by unfold cutM; rw [if_neg (by omega)]

/-- the run in the text's order: what is known of its states -/
structure Line (pr : (Operand → Option AV) → Oper → Option AV) (hp : St → (Operand → Option AV) → Oper → Option Ret) (ops : Array Oper) (A : Nat → Nat) (S : Nat → St) (kd : Nat → Kd) (av : Nat → AV) : Prop where
  stt : Statics ops A
  step : ∀ i o, ops[i]? = some o → StepD pr hp ops o (S i) (S (i + 1)) (kd i) (av i)
  rd : ∀ i, i < ops.size → kd i = .r → ∀ j, j < i → kd j = .w → Nat.testBit (A i) j = true
  wr : ∀ i, i < ops.size → kd i = .w → ∀ j, j < i → kd j ≠ .p → Nat.testBit (A i) j = true

/-- and, once it has been run somewhere, of what a step leaves -/
structure Line2 (ops : Array Oper) (S : Nat → St) (kd : Nat → Kd) (av : Nat → AV) : Prop where
  abs : ∀ i, i < ops.size → AbsD (S i) (S (i + 1))
  keep : ∀ i, i < ops.size → kd i ≠ .w → ∀ id, id < (S i).nx → (S (i + 1)).h.at_ id = (S i).h.at_ id
  still : ∀ i, i < ops.size → kd i = .p → (S (i + 1)).nx = (S i).nx
  tm : ∀ i o, ops[i]? = some o → ∀ t, o.dst ≠ some t → (S (i + 1)).tm.at_ t = (S i).tm.at_ t
  tmd : ∀ i o, ops[i]? = some o → ∀ t, o.dst = some t → (S (i + 1)).tm.at_ t = some (av i)

section
variable {P : Program} {q : Nat} {pr : (Operand → Option AV) → Oper → Option AV} {hp : St → (Operand → Option AV) → Oper → Option Ret} (hpr : PrOk P q pr) (hhp : OpOk P q hp) (hcp : Cong pr) (hch : ∀ st, Cong (hp st))
variable {ops : Array Oper} {A : Nat → Nat} {S : Nat → St} {kd : Nat → Kd} {av : Nat → AV} (L : Line pr hp ops A S kd av)
include hpr hhp hcp hch L

theorem line_text {μ0 : Mu} {tmps0 : Array Value} {df : List Deferred} {w0 : World} (h0 : SRep q μ0 (S 0) tmps0 df w0) : ∀ m, m ≤ ops.size →
    (∃ μ tmps w, SRep q μ (S m) tmps df w) ∧ (∀ i, i < m → AbsD (S i) (S (i + 1))) ∧ (∀ i, i < m → kd i ≠ .w → ∀ id, id < (S i).nx → (S (i + 1)).h.at_ id = (S i).h.at_ id) ∧ (∀ i, i < m → kd i = .p → (S (i + 1)).nx = (S i).nx) ∧
    (∀ i o, i < m → ops[i]? = some o → ∀ t, o.dst ≠ some t → (S (i + 1)).tm.at_ t = (S i).tm.at_ t) ∧ (∀ i o, i < m → ops[i]? = some o → ∀ t, o.dst = some t → (S (i + 1)).tm.at_ t = some (av i)) := by
  intro m
  induction m with
  | zero => exact fun _ => ⟨⟨μ0, tmps0, w0, h0⟩, fun i h => by omega, fun i h => by omega, fun i h => by omega, fun i _ h => by omega, fun i _ h => by omega⟩
  | succ m ih =>
    intro hm
    obtain ⟨⟨μ, tmps, w, hs⟩, i1, i2, i3, i4, i5⟩ := ih (by omega)
    have ho : ops[m]? = some ops[m] := Array.getElem?_eq_getElem (by omega)
    obtain ⟨v, μ', w', s1, s2, s3, s4, s5, s6, s7, s8, s9, s10, _⟩ := stepD_ok hpr hhp hcp hch (L.step m _ ho) (f := 0) (r := none) ho hs.size (fun t _ v hv => hs.tmp t v hv) (fun _ => hs.heap) hs.fresh df [] [] []
    have split : ∀ {p : Nat → Prop}, (∀ i, i < m → p i) → p m → ∀ i, i < m + 1 → p i := fun h1 h2 i hi => by
      by_cases e : i = m
      · subst e; exact h2
      · exact h1 i (by omega)
    refine ⟨⟨μ', putV ops[m].dst tmps v, w', ⟨?_, ?_, ?_, s3 (.inr hs.heap), s4⟩⟩, split i1 s5, split i2 s6, split i3 s7, ?_, ?_⟩
    · rw [s5.n]
      cases ops[m].dst with
      | none => exact hs.size
      | some d => simp only [putV, Array.size_setIfInBounds]; exact hs.size
    · intro t x hx
      cases hd : ops[m].dst with
      | none =>
        rw [hd] at hx s9
        rw [s9 t (by simp)]
        exact (hs.tmp t x hx).mono s2.ext _ _
      | some d =>
        rw [hd] at hx s9 s10
        simp only [putV] at hx
        by_cases e : d = t
        · subst e
          rw [s10 d rfl]
          rw [Array.getElem?_setIfInBounds] at hx
          simp only [if_true] at hx
          split at hx
          · simp at hx; subst hx; exact s1
          · cases hx
        · rw [Array.getElem?_setIfInBounds_ne e] at hx
          rw [s9 t (by simpa using e)]
          exact (hs.tmp t x hx).mono s2.ext _ _
    · rw [s5.df]; exact hs.dfr.mono s2.ext
    · intro i o hi hoi
      by_cases e : i = m
      · subst e; rw [ho] at hoi; obtain rfl := Option.some.inj hoi; exact s9
      · exact i4 i o (by omega) hoi
    · intro i o hi hoi
      by_cases e : i = m
      · subst e; rw [ho] at hoi; obtain rfl := Option.some.inj hoi; exact s10
      · exact i5 i o (by omega) hoi

theorem line2_of {μ0 : Mu} {tmps0 : Array Value} {df : List Deferred} {w0 : World} (h0 : SRep q μ0 (S 0) tmps0 df w0) : Line2 ops S kd av := by
  obtain ⟨_, h1, h2, h3, h4, h5⟩ := line_text hpr hhp hcp hch L h0 ops.size (Nat.le_refl _)
  have lt : ∀ {i o}, ops[i]? = some o → i < ops.size := fun h => (Array.getElem?_eq_some_iff.1 h).1
  exact ⟨h1, h2, h3, fun i o ho => h4 i o (lt ho) ho, fun i o ho => h5 i o (lt ho) ho⟩
end

section
variable {ops : Array Oper} {S : Nat → St} {kd : Nat → Kd} {av : Nat → AV} (M : Line2 ops S kd av)
include M

theorem Line2.absLe {i k : Nat} (h : i ≤ k) (hk : k ≤ ops.size) : AbsD (S i) (S k) := by
  induction k with
  | zero =>
    obtain rfl : i = 0 := by omega
    exact .refl _
  | succ k ih =>
    by_cases e : i = k + 1
    · subst e; exact .refl _
    · exact (ih (by omega) (by omega)).trans (M.abs k (by omega))

theorem Line2.nxLe {i k : Nat} (h : i ≤ k) (hk : k ≤ ops.size) : (S i).nx ≤ (S k).nx := (M.absLe h hk).nx

theorem Line2.keepLe {i k : Nat} (h : i ≤ k) (hk : k ≤ ops.size) (hw : ∀ j, i ≤ j → j < k → kd j ≠ .w) : ∀ id, id < (S i).nx → (S k).h.at_ id = (S i).h.at_ id := by
  induction k with
  | zero =>
    intro id _
    obtain rfl : i = 0 := by omega
    rfl
  | succ k ih =>
    intro id hid
    by_cases e : i = k + 1
    · subst e; rfl
    · rw [M.keep k (by omega) (hw k (by omega) (by omega)) id (Nat.lt_of_lt_of_le hid (M.nxLe (by omega) (by omega))), ih (by omega) (by omega) (fun j h1 h2 => hw j h1 (by omega)) id hid]

theorem Line2.tmLe {i k t : Nat} (h : i ≤ k) (hk : k ≤ ops.size) (hw : ∀ j o, i ≤ j → j < k → ops[j]? = some o → o.dst ≠ some t) : (S k).tm.at_ t = (S i).tm.at_ t := by
  induction k with
  | zero =>
    obtain rfl : i = 0 := by omega
    rfl
  | succ k ih =>
    by_cases e : i = k + 1
    · subst e; rfl
    · have ho : ops[k]? = some ops[k] := Array.getElem?_eq_getElem (by omega)
      rw [M.tm k _ ho t (hw k _ (by omega) (by omega) ho), ih (by omega) (by omega) (fun j o h1 h2 h3 => hw j o h1 (by omega) h3)]
end

/-- where a run in some order stands: X: what has been done -/
structure Mid (q : Nat) (ops : Array Oper) (A : Nat → Nat) (S : Nat → St) (kd : Nat → Kd) (μ0 : Mu) (w0 : World) (X : Nat → Bool) (μ : Mu) (tmps : Array Value) (w : World) : Prop where
  size : tmps.size = (S 0).n
  tm : ∀ t v, tmps[t]? = some v → ∀ k, k ≤ ops.size → (∀ j o, ops[j]? = some o → o.dst = some t → (X j = true ↔ j < k)) → Rep q (cutM μ (S k).nx) (((S k).tm.at_ t).getD undefA) v
  hp : ∀ m, m ≤ ops.size → (∀ j, j < ops.size → kd j = .w → (X j = true ↔ j < m)) → HRep q (cutM μ (S m).nx) (S m).h w
  ext : Ext μ0 μ
  os : w.os = w0.os
  tape : w.tape = w0.tape
  output : w.output = w0.output
  hsize : w0.heap.size ≤ w.heap.size
  frame : ∀ b, b < w0.heap.size → ¬ Wr μ0 (S 0) b → w.heap[b]? = w0.heap[b]?
  new : ∀ id l, μ id = some l → μ0 id = none → w0.heap.size ≤ l.blk ∨ Wr μ0 (S 0) l.blk
  low : ∀ id, id < (S 0).nx → μ id = μ0 id
  ids : ∀ id l, μ id = some l → id < (S 0).nx ∨ ∃ j, j < ops.size ∧ X j = true ∧ (S j).nx ≤ id ∧ id < (S (j + 1)).nx
  cl : ∀ j, j < ops.size → X j = true → ∀ k, Nat.testBit (A j) k = true → X k = true

section
variable {P : Program} {q : Nat} {pr : (Operand → Option AV) → Oper → Option AV} {hp : St → (Operand → Option AV) → Oper → Option Ret} (hpr : PrOk P q pr) (hhp : OpOk P q hp) (hcp : Cong pr) (hch : ∀ st, Cong (hp st))
variable {ops : Array Oper} {A : Nat → Nat} {S : Nat → St} {kd : Nat → Kd} {av : Nat → AV} (L : Line pr hp ops A S kd av) (M : Line2 ops S kd av)

theorem mid_start {μ0 : Mu} {tmps0 : Array Value} {df : List Deferred} {w0 : World} (M : Line2 ops S kd av) (h0 : SRep q μ0 (S 0) tmps0 df w0) : Mid q ops A S kd μ0 w0 (fun _ => false) μ0 tmps0 w0 := by
  have hcut : ∀ k, k ≤ ops.size → Ext μ0 (cutM μ0 (S k).nx) := fun k hk id l h => by
    rw [cutM_lt]
    · exact h
    · have := M.nxLe (Nat.zero_le k) hk
      by_cases e : id < (S 0).nx
      · omega
      · rw [h0.fresh id (by omega)] at h; cases h
  refine ⟨h0.size, fun t v hv k hk hcons => ?_, fun m hm hcons => ?_, Ext.refl _, rfl, rfl, rfl, Nat.le_refl _, fun _ _ _ => rfl, (fun _ _ h1 h2 => by rw [h2] at h1; cases h1), fun _ _ => rfl, fun id l h => ?_, (fun j _ h => by simp at h)⟩
  · rw [M.tmLe (Nat.zero_le k) hk fun j o _ hj ho hd => by have := (hcons j o ho hd).2 hj; simp at this]
    exact (h0.tmp t v hv).mono (hcut k hk) _ _
  · have hk := M.keepLe (Nat.zero_le m) hm fun j _ hj hw => by have := (hcons j (by omega) hw).2 hj; simp at this
    have hlt : ∀ {id l}, μ0 id = some l → id < (S 0).nx := fun {id l} h => by
      by_cases e : id < (S 0).nx
      · exact e
      · rw [h0.fresh id (by omega)] at h; cases h
    refine ⟨fun id b l hb hl => ?_, fun id id' l l' h1 h2 h3 h4 e => ?_⟩
    · have hl0 := (cutM_some hl).2
      rw [hk id (hlt hl0)] at hb
      obtain ⟨o, o1, o2⟩ := h0.heap.obj id b l hb hl0
      exact ⟨o, o1, o2.mono (hcut m hm)⟩
    · have a := (cutM_some h3).2
      have b := (cutM_some h4).2
      rw [hk id (hlt a)] at h1
      rw [hk id' (hlt b)] at h2
      exact h0.heap.inj id id' l l' h1 h2 a b e
  · left
    by_cases e : id < (S 0).nx
    · exact e
    · rw [h0.fresh id (by omega)] at h; cases h

include hpr hhp hcp hch L M

/-- One operation more. -/
theorem mid_step {μ0 : Mu} {w0 : World} (hf0 : ∀ id, (S 0).nx ≤ id → μ0 id = none) {X : Nat → Bool} {μ : Mu} {tmps : Array Value} {w : World} (I : Mid q ops A S kd μ0 w0 X μ tmps w) {i : Nat} {o : Oper} (ho : ops[i]? = some o) (hi : X i = false)
    (hready : ∀ k, Nat.testBit (A i) k = true → X k = true) (f : FuncId) (r : Option Nat) (df : List Deferred) (rest : List Nat) (k : List Item) (cs : List Frame) :
    ∃ μ' tmps' w', Mid q ops A S kd μ0 w0 (fun j => if j = i then true else X j) μ' tmps' w' ∧ Steps P (lone (mk f r tmps df (.inRegion ops (i :: rest) :: k)) cs w) (lone (mk f r tmps' df (.inRegion ops rest :: k)) cs w') := by
  have hlt : i < ops.size := (Array.getElem?_eq_some_iff.1 ho).1
  -- what comes behind it in the text and hangs on it has not been done
  have hnot : ∀ j, j < ops.size → Nat.testBit (A j) i = true → X j = false := fun j hj ht => by
    cases hx : X j with
    | false => rfl
    | true => have := I.cl j hj hx i ht; rw [hi] at this; cases this
  -- the writers that have been done are those ahead of it, if it is at the heap
  have hwriters : kd i ≠ .p → ∀ j, j < ops.size → kd j = .w → (X j = true ↔ j < i) := by
    intro hkp j hj hjw
    rcases Nat.lt_trichotomy j i with h | h | h
    · refine ⟨fun _ => h, fun _ => hready j ?_⟩
      cases hk : kd i with
      | p => exact absurd hk hkp
      | r => exact L.rd i hlt hk j h hjw
      | w => exact L.wr i hlt hk j h (by rw [hjw]; simp)
    · subst h; rw [hi]; simp
    · have := hnot j hj (L.wr j hj hjw i h hkp)
      rw [this]; simp; omega
  -- what is looked at
  have hlooks : ∀ t ∈ o.looksAt ops, ∀ v, tmps[t]? = some v → Rep q (cutM μ (S i).nx) (((S i).tm.at_ t).getD undefA) v := by
    intro t ht v hv
    refine I.tm t v hv i (by omega) fun j oj hoj hd => ?_
    have hj : j < ops.size := (Array.getElem?_eq_some_iff.1 hoj).1
    rcases Nat.lt_trichotomy j i with h | h | h
    · rcases L.stt.ap i o ho j oj hoj h with hb | hb
      · exact ⟨fun _ => h, fun _ => hready j hb⟩
      · exact absurd ht ((Oper.apart_spec hb).1 t hd)
    · subst h; rw [hi]; simp
    · rcases L.stt.ap j oj hoj i o ho h with hb | hb
      · rw [hnot j hj hb]; simp; omega
      · exact absurd ht ((Oper.apart_spec hb).2.2 t hd)
  have hsz : tmps.size = (S i).n := by rw [I.size, ← (M.absLe (Nat.zero_le i) (by omega)).n]
  obtain ⟨v, μ', w', s1, hgood, s3, hfresh, s5, s6, s7, s8, s9, s10, hsteps⟩ := stepD_ok hpr hhp hcp hch (L.step i o ho) (f := f) (r := r) ho hsz hlooks (fun hkp => I.hp i (by omega) (hwriters hkp)) (fun id h => cutM_ge h) df rest k cs
  let μ2 : Mu := fun id => if (S i).nx ≤ id ∧ id < (S (i + 1)).nx then μ' id else μ id
  have hnxs : (S i).nx ≤ (S (i + 1)).nx := s5.nx
  have hnx0 : (S 0).nx ≤ (S i).nx := M.nxLe (Nat.zero_le i) (by omega)
  -- whose ids are there
  have hrange : ∀ id l, μ id = some l → ¬ ((S i).nx ≤ id ∧ id < (S (i + 1)).nx) := by
    rintro id l hl ⟨h1, h2⟩
    rcases I.ids id l hl with h | ⟨j, hj, hx, h3, h4⟩
    · omega
    · by_cases e : j = i
      · subst e; rw [hi] at hx; cases hx
      · rcases Nat.lt_or_ge j i with h | h
        · have := M.nxLe (i := j + 1) (k := i) (by omega) (by omega); omega
        · have := M.nxLe (i := i + 1) (k := j) (by omega) (by omega); omega
  have hin : ∀ {id}, (S i).nx ≤ id → id < (S (i + 1)).nx → μ2 id = μ' id := fun {id} h1 h2 => if_pos ⟨h1, h2⟩
  have hout : ∀ {id}, ¬ ((S i).nx ≤ id ∧ id < (S (i + 1)).nx) → μ2 id = μ id := fun {id} h => if_neg h
  have hext1 : Ext μ μ2 := fun id l hl => by rw [hout (hrange id l hl)]; exact hl
  have hext2 : Ext μ' μ2 := fun id l hl => by
    by_cases e : (S i).nx ≤ id ∧ id < (S (i + 1)).nx
    · rw [hin e.1 e.2]; exact hl
    · rw [hout e]
      by_cases e2 : id < (S i).nx
      · rw [hgood.low id e2] at hl; exact (cutM_some hl).2
      · rw [hfresh id (by omega)] at hl; cases hl
  have hback : ∀ id l, μ2 id = some l → id < (S (i + 1)).nx → μ' id = some l := fun id l hl hid => by
    by_cases e : (S i).nx ≤ id
    · rw [hin e hid] at hl; exact hl
    · rw [hgood.low id (by omega), cutM_lt (by omega)]
      rw [hout (by omega)] at hl; exact hl
  have hext3 : ∀ m, i < m → m ≤ ops.size → Ext μ' (cutM μ2 (S m).nx) := fun m h1 h2 id l hl => by
    have hid : id < (S (i + 1)).nx := by
      by_cases e : id < (S (i + 1)).nx
      · exact e
      · rw [hfresh id (by omega)] at hl; cases hl
    rw [cutM_lt (Nat.lt_of_lt_of_le hid (M.nxLe (by omega) h2))]
    exact hext2 id l hl
  have hext4 : ∀ N, Ext (cutM μ N) (cutM μ2 N) := fun N id l hl => by
    obtain ⟨h1, h2⟩ := cutM_some hl
    rw [cutM_lt h1]; exact hext1 id l h2
  -- no writer between it and a cut that agrees
  have hnow : ∀ m, m ≤ ops.size → kd i ≠ .p → (∀ j, j < ops.size → j ≠ i → kd j = .w → (X j = true ↔ j < m)) → ∀ j, i + 1 ≤ j → j < m → kd j ≠ .w := by
    intro m hm hkp hc j h1 h2 hjw
    have := (hc j (by omega) (by omega) hjw).2 h2
    rw [hnot j (by omega) (L.wr j (by omega) hjw i (by omega) hkp)] at this
    cases this
  have hwrb : ∀ b, Wr (cutM μ (S i).nx) (S i) b → w0.heap.size ≤ b ∨ Wr μ0 (S 0) b := by
    rintro b ⟨id, l, h1, h2, h3, rfl⟩
    have hl := (cutM_some h3).2
    cases h0 : μ0 id with
    | none => exact I.new id l hl h0
    | some l' =>
      have := I.ext id l' h0
      rw [hl] at this
      obtain rfl := Option.some.inj this
      have hid : id < (S 0).nx := by
        by_cases e : id < (S 0).nx
        · exact e
        · rw [hf0 id (by omega)] at h0; cases h0
      have hab := M.absLe (Nat.zero_le i) (Nat.le_of_lt hlt)
      exact .inr ⟨id, l, hab.live id hid h1, by rw [← St.canW_congr hab.ro hab.wl]; exact h2, h0, rfl⟩
  refine ⟨μ2, putV o.dst tmps v, w', ⟨?_, ?_, ?_, I.ext.trans hext1, hgood.os.trans I.os, hgood.tape.trans I.tape, hgood.output.trans I.output, Nat.le_trans I.hsize hgood.size, ?_, ?_, ?_, ?_, ?_⟩, hsteps⟩
  · cases o.dst with
    | none => exact I.size
    | some d => simp only [putV, Array.size_setIfInBounds]; exact I.size
  · -- temporaries
    intro t x hx m hm hc
    by_cases hd : o.dst = some t
    · have him : i < m := by have := (hc i o ho hd).1 (by simp); exact this
      have hrest : ∀ j oj, i + 1 ≤ j → j < m → ops[j]? = some oj → oj.dst ≠ some t := by
        intro j oj h1 h2 hoj hdj
        have hx := (hc j oj hoj hdj).2 h2
        rw [if_neg (by omega)] at hx
        have hj : j < ops.size := by omega
        rcases L.stt.ap j oj hoj i o ho (by omega) with hb | hb
        · rw [hnot j hj hb] at hx; cases hx
        · exact (Oper.apart_spec hb).2.1 t hd hdj
      rw [M.tmLe (i := i + 1) (by omega) hm hrest, s10 t hd]
      rw [hd] at hx
      simp only [putV] at hx
      rw [Array.getElem?_setIfInBounds] at hx
      simp only [if_true] at hx
      split at hx
      · simp at hx; subst hx
        exact s1.mono (hext3 m him hm) _ _
      · cases hx
    · have hx' : tmps[t]? = some x := by
        cases hd2 : o.dst with
        | none => rw [hd2] at hx; exact hx
        | some d =>
          rw [hd2] at hx hd
          simp only [putV] at hx
          rwa [Array.getElem?_setIfInBounds_ne (by simpa using hd)] at hx
      refine (I.tm t x hx' m hm fun j oj hoj hdj => ?_).mono (hext4 _) _ _
      have hji : j ≠ i := by
        rintro rfl
        rw [ho] at hoj
        obtain rfl := Option.some.inj hoj
        exact hd hdj
      have := hc j oj hoj hdj
      rwa [if_neg hji] at this
  · -- the heap
    intro m hm hc
    have hc' : ∀ j, j < ops.size → j ≠ i → kd j = .w → (X j = true ↔ j < m) := fun j hj hji hjw => by have := hc j hj hjw; rwa [if_neg hji] at this
    by_cases hkw : kd i = .w
    · have hkp : kd i ≠ .p := by rw [hkw]; simp
      have him : i < m := by have := (hc i hlt hkw).1 (by simp); exact this
      have H := s3 (.inl hkp)
      have hkeep := M.keepLe (i := i + 1) (k := m) (by omega) hm (hnow m hm hkp hc')
      have hall : ∀ id l, μ2 id = some l → id < (S (i + 1)).nx := by
        intro id l hl
        by_cases e : (S i).nx ≤ id ∧ id < (S (i + 1)).nx
        · exact e.2
        · rw [hout e] at hl
          rcases I.ids id l hl with h | ⟨j, hj, hx, h3, h4⟩
          · omega
          · by_cases eji : j = i
            · subst eji; rw [hi] at hx; cases hx
            · rcases Nat.lt_or_ge j i with h | h
              · have := M.nxLe (i := j + 1) (k := i) (by omega) (by omega); omega
              · exfalso
                cases hk : kd j with
                | p => have := M.still j hj hk; omega
                | r => rw [hnot j hj (L.rd j hj hk i (by omega) hkw)] at hx; cases hx
                | w => rw [hnot j hj (L.wr j hj hk i (by omega) hkp)] at hx; cases hx
      refine ⟨fun id b l hb hl => ?_, fun id id' l l' h1 h2 h3 h4 e => ?_⟩
      · have hl2 := (cutM_some hl).2
        have hid := hall id l hl2
        rw [hkeep id hid] at hb
        obtain ⟨ob, o1, o2⟩ := H.obj id b l hb (hback id l hl2 hid)
        exact ⟨ob, o1, o2.mono (hext3 m him hm)⟩
      · have a := (cutM_some h3).2
        have b := (cutM_some h4).2
        have ia := hall id l a
        have ib := hall id' l' b
        rw [hkeep id ia] at h1
        rw [hkeep id' ib] at h2
        exact H.inj id id' l l' h1 h2 (hback id l a ia) (hback id' l' b ib) e
    · obtain ⟨hsame, hnew⟩ := s8 hkw
      have old := I.hp m hm fun j hj hjw => hc' j hj (fun e => hkw (by rw [← e]; exact hjw)) hjw
      have hkp : ∀ {id}, (S i).nx ≤ id → id < (S (i + 1)).nx → kd i ≠ .p := fun {id} h1 h2 hk => by have := s7 hk; omega
      -- an id of this operation's, seen from the cut
      have hmine : ∀ id, (S i).nx ≤ id → id < (S (i + 1)).nx → id < (S m).nx → i < m ∧ (S m).h.at_ id = (S (i + 1)).h.at_ id := by
        intro id h1 h2 h3
        have him : i < m := by
          rcases Nat.lt_or_ge i m with h | h
          · exact h
          · have := M.nxLe (i := m) (k := i) h (by omega); omega
        exact ⟨him, M.keepLe (i := i + 1) (k := m) (by omega) hm (hnow m hm (hkp h1 h2) hc') id h2⟩
      refine ⟨fun id b l hb hl => ?_, fun id id' l l' h1 h2 h3 h4 e => ?_⟩
      · obtain ⟨hid, hl2⟩ := cutM_some hl
        by_cases er : (S i).nx ≤ id ∧ id < (S (i + 1)).nx
        · obtain ⟨him, hh⟩ := hmine id er.1 er.2 hid
          rw [hh] at hb
          rw [hin er.1 er.2] at hl2
          obtain ⟨ob, o1, o2⟩ := (s3 (.inl (hkp er.1 er.2))).obj id b l hb hl2
          exact ⟨ob, o1, o2.mono (hext3 m him hm)⟩
        · rw [hout er] at hl2
          have hl3 : cutM μ (S m).nx id = some l := by rw [cutM_lt hid]; exact hl2
          obtain ⟨ob, o1, o2⟩ := old.obj id b l hb hl3
          refine ⟨ob, ?_, o2.mono (hext4 _)⟩
          rw [hsame _ (old.blk_lt (by rw [hb]; simp) hl3)]
          exact o1
      · obtain ⟨ha, a⟩ := cutM_some h3
        obtain ⟨hb, b⟩ := cutM_some h4
        by_cases er : (S i).nx ≤ id ∧ id < (S (i + 1)).nx
        · rw [hin er.1 er.2] at a
          by_cases er' : (S i).nx ≤ id' ∧ id' < (S (i + 1)).nx
          · rw [hin er'.1 er'.2] at b
            rw [(hmine id er.1 er.2 ha).2] at h1
            rw [(hmine id' er'.1 er'.2 hb).2] at h2
            exact (s3 (.inl (hkp er.1 er.2))).inj id id' l l' h1 h2 a b e
          · rw [hout er'] at b
            have h5 := hnew id l a (cutM_ge er.1)
            have h6 := old.blk_lt h2 (by rw [cutM_lt hb]; exact b)
            omega
        · rw [hout er] at a
          by_cases er' : (S i).nx ≤ id' ∧ id' < (S (i + 1)).nx
          · rw [hin er'.1 er'.2] at b
            have h5 := hnew id' l' b (cutM_ge er'.1)
            have h6 := old.blk_lt h1 (by rw [cutM_lt ha]; exact a)
            omega
          · rw [hout er'] at b
            exact old.inj id id' l l' h1 h2 (by rw [cutM_lt ha]; exact a) (by rw [cutM_lt hb]; exact b) e
  · intro b hb hn
    rw [hgood.frame b (Nat.lt_of_lt_of_le hb I.hsize) (fun h => ?_), I.frame b hb hn]
    rcases hwrb b h with h | h
    · omega
    · exact hn h
  · intro id l hl h0
    by_cases e : (S i).nx ≤ id ∧ id < (S (i + 1)).nx
    · rw [hin e.1 e.2] at hl
      rcases hgood.new id l hl (cutM_ge e.1) with h | h
      · exact .inl (Nat.le_trans I.hsize h)
      · exact hwrb _ h
    · rw [hout e] at hl; exact I.new id l hl h0
  · intro id hid
    rw [hout (by omega)]; exact I.low id hid
  · intro id l hl
    by_cases e : (S i).nx ≤ id ∧ id < (S (i + 1)).nx
    · exact .inr ⟨i, hlt, by simp, e.1, e.2⟩
    · rw [hout e] at hl
      rcases I.ids id l hl with h | ⟨j, hj, hx, h3, h4⟩
      · exact .inl h
      · exact .inr ⟨j, hj, by rw [hx]; simp, h3, h4⟩
  · intro j hj hx k hk
    by_cases eji : j = i
    · subst eji
      rw [hready k hk]; simp
    · rw [if_neg eji] at hx
      rw [I.cl j hj hx k hk]; simp
end

end Go.Proofs.YtdkcihleblbkaaaGreatDoor.Eng

/- A verified symbolic executor, part 29: a region that draws its order, whatever order is drawn. The lemmas hold of every program; no project text. -/
namespace Go.Proofs.YtdkcihleblbkaaaGreatDoor.Eng
set_option linter.unusedVariables false
set_option linter.unusedSimpArgs false
set_option linter.unusedSectionVars false
open Go

/-- how many are not listed yet -/
def unl (listed : Array Bool) : Nat → Nat
  | 0 => 0
  | n + 1 => unl listed n + (if listed.getD n true = true then 0 else 1)

theorem unl_le (listed : Array Bool) : ∀ n, unl listed n ≤ n
  | 0 => Nat.le_refl _
  | n + 1 => by
    have := unl_le listed n
    simp only [unl]
    split <;> omega

theorem unl_zero {listed : Array Bool} : ∀ {n : Nat}, unl listed n = 0 → ∀ j, j < n → listed.getD j true = true
  | 0, _, j, hj => by omega
  | n + 1, h, j, hj => by
    simp only [unl] at h
    split at h
    · rename_i hn
      by_cases e : j = n
      · subst e; exact hn
      · exact unl_zero (by omega) j (by omega)
    · omega

theorem getD_in {listed : Array Bool} {j : Nat} (d d' : Bool) (h : j < listed.size) : listed.getD j d = listed.getD j d' := by simp [Array.getD, h]

theorem getD_set {listed : Array Bool} {i j : Nat} (hi : i < listed.size) (d : Bool) : (listed.setIfInBounds i true).getD j d = if j = i then true else listed.getD j d := by
  simp only [Array.getD_eq_getD_getElem?]
  rw [Array.getElem?_setIfInBounds]
  by_cases e : i = j
  · subst e; simp [hi]
  · rw [if_neg e, if_neg (fun h => e h.symm)]

theorem unl_set {listed : Array Bool} {i : Nat} (hi : i < listed.size) (h : listed.getD i true = false) : ∀ {n : Nat}, i < n → unl (listed.setIfInBounds i true) n + 1 = unl listed n
  | 0, hn => by omega
  | n + 1, hn => by
    simp only [unl]
    rw [getD_set hi]
    by_cases e : n = i
    · subst e
      rw [if_pos rfl, h]
      have hsame : ∀ m, m ≤ n → unl (listed.setIfInBounds n true) m = unl listed m := by
        intro m
        induction m with
        | zero => intro _; rfl
        | succ m ih =>
          intro hm
          simp only [unl]
          have hne : ¬ m = n := by omega
          simp only [ih (by omega), getD_set hi, hne, if_false]
      rw [hsame n (Nat.le_refl _)]
      simp
    · rw [if_neg e]
      have := unl_set hi h (n := n) (by omega)
      omega

section
variable {P : Program} {q : Nat} {pr : (Operand → Option AV) → Oper → Option AV} {hp : St → (Operand → Option AV) → Oper → Option Ret} (hpr : PrOk P q pr) (hhp : OpOk P q hp) (hcp : Cong pr) (hch : ∀ st, Cong (hp st))
variable {ops : Array Oper} {A : Nat → Nat} {S : Nat → St} {kd : Nat → Kd} {av : Nat → AV} (L : Line pr hp ops A S kd av) (M : Line2 ops S kd av)

theorem ready_mem {listed : Array Bool} {i : Nat} (h : i ∈ Region.ready .any ops listed) : ∃ o, ops[i]? = some o ∧ listed.getD i true = false ∧ ∀ e ∈ o.after.toList, Region.binds .any e = true → listed.getD e.on false = true := by
  simp only [Region.ready, List.mem_filter, List.mem_range, Bool.and_eq_true, Bool.not_eq_true'] at h
  obtain ⟨h1, h2, h3⟩ := h
  refine ⟨ops[i], Array.getElem?_eq_getElem h1, h2, fun e he hb => ?_⟩
  rw [Array.getElem?_eq_getElem h1] at h3
  simp only [Option.map_some, Option.getD_some, Array.all_eq_true_iff_forall_mem] at h3
  have := h3 e (by simpa using he)
  simpa [hb] using this

theorem ready_some (hs : Statics ops A) {listed : Array Bool} (hsz : listed.size = ops.size) : ∀ i, i < ops.size → listed.getD i true = false → Region.ready .any ops listed ≠ [] := by
  intro i
  induction i using Nat.strongRecOn with
  | _ i ih =>
    intro hi hl
    by_cases hall : ∀ e ∈ ops[i].after.toList, Region.binds .any e = true → listed.getD e.on false = true
    · intro hnil
      have : i ∈ Region.ready .any ops listed := by
        simp only [Region.ready, List.mem_filter, List.mem_range, Bool.and_eq_true, Bool.not_eq_true']
        refine ⟨hi, hl, ?_⟩
        rw [Array.getElem?_eq_getElem hi]
        simp only [Option.map_some, Option.getD_some, Array.all_eq_true_iff_forall_mem]
        intro e he
        cases hb : Region.binds .any e with
        | false => simp
        | true => simp [hall e (by simpa using he) hb]
      rw [hnil] at this
      simp at this
    · simp only [Classical.not_forall] at hall
      obtain ⟨e, he, hb, hn⟩ := hall
      have hlt := (hs.bef i _ (Array.getElem?_eq_getElem hi) e he hb).1
      refine ih e.on hlt (by omega) ?_
      rw [getD_in true false (by omega)]
      simpa using hn

include hpr hhp hcp hch L M

theorem drawn_go {μ0 : Mu} {w0 : World} (hf0 : ∀ id, (S 0).nx ≤ id → μ0 id = none) (f : FuncId) (r : Option Nat) (df : List Deferred) (k : List Item) (cs : List Frame) : ∀ (fuel t : Nat) (listed : Array Bool), listed.size = ops.size → unl listed ops.size ≤ fuel →
    ∀ μ tmps w, Mid q ops A S kd μ0 w0 (fun j => listed.getD j false) μ tmps w →
    ∃ X μ' tmps' w', (∀ j, j < ops.size → X j = true) ∧ Mid q ops A S kd μ0 w0 X μ' tmps' w' ∧
      Steps P (lone (mk f r tmps df (.inRegion ops (Region.linearise.go .any ops fuel t listed []) :: k)) cs w) (lone (mk f r tmps' df (.inRegion ops [] :: k)) cs w') := by
  intro fuel
  induction fuel with
  | zero =>
    intro t listed hsz hun μ tmps w I
    refine ⟨_, μ, tmps, w, fun j hj => ?_, I, Steps.refl _ _⟩
    rw [getD_in false true (by omega)]
    exact unl_zero (by omega) j hj
  | succ fuel ih =>
    intro t listed hsz hun μ tmps w I
    simp only [Region.linearise.go]
    change ∃ X μ' tmps' w', (∀ j, j < ops.size → X j = true) ∧ Mid q ops A S kd μ0 w0 X μ' tmps' w' ∧
      Steps P (lone (mk f r tmps df (.inRegion ops (match (Region.ready .any ops listed)[t % (Region.ready .any ops listed).length]? with
        | some i => Region.linearise.go .any ops fuel (t / (Region.ready .any ops listed).length) (listed.setIfInBounds i true) [i]
        | none => [].reverse) :: k)) cs w) (lone (mk f r tmps' df (.inRegion ops [] :: k)) cs w')
    cases hi : (Region.ready .any ops listed)[t % (Region.ready .any ops listed).length]? with
    | none =>
      have hnil : Region.ready .any ops listed = [] := by
        cases hr : Region.ready .any ops listed with
        | nil => rfl
        | cons x xs =>
          rw [hr] at hi
          have hlt : t % (x :: xs).length < (x :: xs).length := Nat.mod_lt _ (by simp)
          simp at hi
          simp at hlt
          omega
      refine ⟨_, μ, tmps, w, fun j hj => ?_, I, Steps.refl _ _⟩
      cases hj2 : listed.getD j false with
      | true => rfl
      | false =>
        rw [getD_in false true (by omega)] at hj2
        exact absurd hnil (ready_some L.stt hsz j hj hj2)
    | some i =>
      have hmem := List.mem_of_getElem? hi
      obtain ⟨o, ho, hl, hb⟩ := ready_mem hmem
      have hlt : i < ops.size := (Array.getElem?_eq_some_iff.1 ho).1
      simp only []
      rw [linearise_go_acc, List.reverse_singleton, List.singleton_append]
      obtain ⟨μ1, tmps1, w1, I1, hst1⟩ := mid_step hpr hhp hcp hch L M hf0 I ho (by rw [getD_in false true (by omega)]; exact hl) (fun kk hk => by
        obtain ⟨e, he, hbe, hx⟩ := L.stt.cl i o ho kk hk
        have hle := hb e he hbe
        rcases hx with rfl | hx
        · exact hle
        · exact I.cl e.on (by have := (L.stt.bef i o ho e he hbe).1; omega) hle kk hx) f r df (Region.linearise.go .any ops fuel (t / (Region.ready .any ops listed).length) (listed.setIfInBounds i true) []) k cs
      have hX : (fun j => if j = i then true else listed.getD j false) = fun j => (listed.setIfInBounds i true).getD j false := by
        funext j; rw [getD_set (by omega)]
      rw [hX] at I1
      have hc := unl_set (listed := listed) (i := i) (by omega) hl hlt
      obtain ⟨X, μ2, tmps2, w2, g1, g2, g3⟩ := ih _ _ (by simpa using hsz) (by omega) μ1 tmps1 w1 I1
      exact ⟨X, μ2, tmps2, w2, g1, g2, Steps.trans hst1 g3⟩
end

theorem drawn_ok {P : Program} {q : Nat} {pr : (Operand → Option AV) → Oper → Option AV} {hp : St → (Operand → Option AV) → Oper → Option Ret} (hm : P.follows .mixedOrders = true) (hpr : PrOk P q pr) (hhp : OpOk P q hp) (hcp : Cong pr) (hch : ∀ st, Cong (hp st))
    {ops : Array Oper} {st : St} {ss : List St} (h : drawnA pr hp ops st = some ss) (f : FuncId) (r : Option Nat) (id : Nat) : CodeOk P q f r (.region id ops true) st (ss.map fun s => (Jump.normal, s)) := by
  unfold drawnA at h
  split at h
  · cases h
  · rename_i l hl
    split at h
    · cases h
    · rename_i s hrun
      simp only [Option.some.injEq] at h; subst h
      obtain ⟨t1, A, hA, t2⟩ := tags_spec hl
      obtain ⟨S, kd, av, e1, e2, e3⟩ := runD_out l 0 0 0 st s hrun
      rw [Nat.zero_add, t1] at e2
      have L : Line pr hp ops A S kd av := by
        have at_ : ∀ i, i < ops.size → ∃ fr, l[i]? = some (ops[i]!, A i, fr) := fun i hi => t2 i _ (by rw [getElem!_pos ops i hi]; exact Array.getElem?_eq_getElem hi)
        refine ⟨hA, fun i o ho => ?_, fun i hi hk j hj hjw => ?_, fun i hi hk j hj hjp => ?_⟩
        · obtain ⟨fr, hfr⟩ := t2 i o ho
          have := (e3 i _ _ _ hfr).1
          simpa using this
        · obtain ⟨fr, hfr⟩ := at_ i hi
          have := (e3 i _ _ _ hfr).2.1
          rw [Nat.zero_add] at this
          exact this hk j (.inr ⟨Nat.zero_le _, hj, hjw⟩)
        · obtain ⟨fr, hfr⟩ := at_ i hi
          have := (e3 i _ _ _ hfr).2.2
          rw [Nat.zero_add] at this
          exact this hk j (.inr ⟨Nat.zero_le _, hj, hjp⟩)
      intro μ0 tmps0 df w0 hs0 k cs
      subst e1
      subst e2
      have hs : SRep q μ0 (S 0) tmps0 df { w0 with drawn := w0.drawn + 1 } := ⟨hs0.size, hs0.tmp, hs0.dfr, HRep.of_heap (w := w0) (w' := { w0 with drawn := w0.drawn + 1 }) rfl hs0.heap, hs0.fresh⟩
      have M := line2_of hpr hhp hcp hch L hs
      have I0 := mid_start (A := A) M hs
      have hrep : (fun _ => false) = fun j => (Array.replicate ops.size false).getD j false := by funext j; simp [Array.getD]
      rw [hrep] at I0
      obtain ⟨X, μ, tmps, w, hX, I, hst⟩ := drawn_go hpr hhp hcp hch L M hs.fresh f r df k cs ops.size (w0.tape w0.drawn (.order f id)) (Array.replicate ops.size false) (by simp) (unl_le _ _) μ0 tmps0 _ I0
      have hab := M.absLe (Nat.zero_le ops.size) (Nat.le_refl _)
      have hext : Ext μ0 (cutM μ (S ops.size).nx) := fun i l h => by
        have hi : i < (S 0).nx := by
          by_cases e : i < (S 0).nx
          · exact e
          · rw [hs.fresh i (by omega)] at h; cases h
        rw [cutM_lt (Nat.lt_of_lt_of_le hi hab.nx)]
        exact I.ext i l h
      refine ⟨.normal, S ops.size, by simp, cutM μ (S ops.size).nx, tmps, df, w, ⟨by rw [I.size, hab.n], fun t v hv => ?_, ?_, ?_, fun i hi => cutM_ge hi⟩, ?_, .head st_draw ?_⟩
      · exact I.tm t v hv ops.size (Nat.le_refl _) fun j o hj _ => ⟨fun _ => (Array.getElem?_eq_some_iff.1 hj).1, fun h => hX j h⟩
      · rw [hab.df]; exact hs.dfr.mono hext
      · exact I.hp ops.size (Nat.le_refl _) fun j hj _ => ⟨fun _ => hj, fun h => hX j h⟩
      · exact ⟨hext, hab.nx, hab.ro, hab.wl, hab.mw, I.os, I.tape, I.output, I.hsize, I.frame, fun i l h1 h2 => I.new i l (cutM_some h1).2 h2, hab.live, hab.keep, fun i hi => by rw [cutM_lt (Nat.lt_of_lt_of_le hi hab.nx)]; exact I.low i hi⟩
      · rw [hm]
        simp only [Region.schedule, Bool.true_or, if_true]
        exact Steps.trans hst (.one st_regionEnd)

end Go.Proofs.YtdkcihleblbkaaaGreatDoor.Eng

/- A verified symbolic executor, part 30: what an operation asks of its operands alone; conversions, maps. The lemmas hold of every program; no project text. -/
namespace Go.Proofs.YtdkcihleblbkaaaGreatDoor.Eng
set_option linter.unusedVariables false
set_option linter.unusedSimpArgs false
set_option linter.unusedSectionVars false
open Go

theorem evL_congr {e e' : Operand → Option AV} : ∀ {l : List Operand}, (∀ x ∈ l, e x = e' x) → evL e l = evL e' l
  | [], _ => rfl
  | x :: l, h => by simp only [evL]; rw [h x (by simp), evL_congr (l := l) fun y hy => h y (by simp [hy])]

theorem evP_congr {e e' : Operand → Option AV} : ∀ {l : List (Nat × Operand)}, (∀ x ∈ l.map (·.2), e x = e' x) → evP e l = evP e' l
  | [], _ => rfl
  | (i, x) :: l, h => by simp only [evP]; rw [h x (by simp), evP_congr (l := l) fun y hy => h y (by simp only [List.map_cons, List.mem_cons]; exact .inr hy)]

theorem optNat_congr {e e' : Operand → Option AV} {d : Nat} {x : Option Operand} (h : ∀ y, x = some y → e y = e' y) : optNat e d x = optNat e' d x := by
  cases x with
  | none => rfl
  | some y => simp only [optNat]; rw [h y rfl]

theorem sliceStrA_congr {e e' : Operand → Option AV} {s : List Nat} {lo hi : Option Operand} (h1 : ∀ y, lo = some y → e y = e' y) (h2 : ∀ y, hi = some y → e y = e' y) : sliceStrA s e lo hi = sliceStrA s e' lo hi := by
  unfold sliceStrA
  rw [optNat_congr h1, optNat_congr h2]
  cases lo with
  | none => rfl
  | some x => cases hi with
    | none => rfl
    | some y => dsimp only; rw [h1 x rfl, h2 y rfl]

theorem sliceSlA_congr {D : Ty} {e e' : Operand → Option AV} {el : TypeId} {id off len : Nat} {cap : Option Nat} {es known : Nat} {lo hi mx : Option Operand} (h1 : ∀ y, lo = some y → e y = e' y) (h2 : ∀ y, hi = some y → e y = e' y) (h3 : ∀ y, mx = some y → e y = e' y) :
    sliceSlA D el id off len cap es known e lo hi mx = sliceSlA D el id off len cap es known e' lo hi mx := by
  unfold sliceSlA
  rw [optNat_congr h1, optNat_congr h2]
  cases mx with
  | none => rfl
  | some x =>
    cases hi with
    | none => rfl
    | some y => dsimp only; rw [h3 x rfl]

theorem pureA_cong (D : Ty) : Cong (pureA D) := by
  intro e e' o h
  obtain ⟨dst, op, type, pos, after, guard⟩ := o
  cases op <;> simp only [Op.operands] at h <;> simp only [pureA]
  case build t ps => rw [evP_congr fun x hx => h x (by simpa using hx)]
  case makeFunc fn first captured =>
    cases fn <;> first | rfl | skip
    dsimp only
    rw [evL_congr (l := first.toList) fun x hx => h x (by simp at hx; simp [hx]), evL_congr (l := captured.toList) fun x hx => h x (by simp at hx; simp [hx])]
  case slice t x lo hi mx =>
    rw [h x (by simp)]
    have h1 : ∀ y, lo = some y → e y = e' y := fun y hy => h y (by subst hy; simp)
    have h2 : ∀ y, hi = some y → e y = e' y := fun y hy => h y (by subst hy; simp)
    have h3 : ∀ d, optNat e d lo = optNat e' d lo := fun d => optNat_congr h1
    have h4 : ∀ d, optNat e d hi = optNat e' d hi := fun d => optNat_congr h2
    have h5 : ∀ s, sliceStrA s e lo hi = sliceStrA s e' lo hi := fun s => sliceStrA_congr h1 h2
    simp only [h3, h4, h5]
  case call c =>
    have ha : ∀ x ∈ c.args.toList, e x = e' x := fun x hx => h x (by simp only [Call.operands]; simp at hx; simp [hx])
    generalize c.argTypes.toList = ts
    cases c.callee with
    | value f => rfl
    | invoke r m => rfl
    | builtin b =>
      rcases hl : c.args.toList with _ | ⟨x, _ | ⟨y, _ | ⟨z, l⟩⟩⟩
      · cases b <;> rfl
      · have hx := ha x (by rw [hl]; simp)
        rcases ts with _ | ⟨t, _ | ⟨t', ts⟩⟩ <;> cases b <;> first | rfl | (dsimp only; rw [hx])
      · have hx := ha x (by rw [hl]; simp)
        have hy := ha y (by rw [hl]; simp)
        cases b <;> first | rfl | (dsimp only; rw [hx, hy])
      · cases b <;> rfl
  all_goals (first | rfl | (simp only [List.mem_cons, List.not_mem_nil, or_false, forall_eq_or_imp, forall_eq, Array.mem_def] at h; simp [h]; done) | skip)

theorem heapA_cong (cx : Cx) (st : St) : Cong (heapA cx st) := by
  intro e e' o h
  obtain ⟨dst, op, type, pos, after, guard⟩ := o
  cases op <;> simp only [Op.operands] at h <;> simp only [heapA]
  case buildSlice t n ps => rw [evP_congr fun x hx => h x (by simpa using hx)]
  case slice t x lo hi mx =>
    rw [h x (by simp)]
    have h1 : ∀ y, lo = some y → e y = e' y := fun y hy => h y (by subst hy; simp)
    have h2 : ∀ y, hi = some y → e y = e' y := fun y hy => h y (by subst hy; simp)
    have h3 : ∀ y, mx = some y → e y = e' y := fun y hy => h y (by subst hy; simp)
    have h4 : ∀ el id off len cap es known, sliceSlA cx.D el id off len cap es known e lo hi mx = sliceSlA cx.D el id off len cap es known e' lo hi mx := fun _ _ _ _ _ _ _ => sliceSlA_congr h1 h2 h3
    simp only [h4]
  case makeMap t r => cases r <;> rfl
  case next x b => cases b <;> first | rfl | (simp only [List.mem_cons, List.not_mem_nil, or_false, forall_eq_or_imp, forall_eq, Array.mem_def] at h; simp [h]; done)
  case call c =>
    have ha : evL e c.args.toList = evL e' c.args.toList := evL_congr fun x hx => h x (by simp only [Call.operands]; simp at hx; simp [hx])
    rw [ha]
    cases hc : c.callee with
    | value f =>
      have hf : e f = e' f := h f (by simp [Call.operands, hc])
      cases evL e' c.args.toList with
      | none => rfl
      | some as => dsimp only; rw [hf]
    | invoke r m => rfl
    | builtin b =>
      cases b <;> first | rfl | (rcases evL e' c.args.toList with _ | _ | ⟨x, _ | ⟨y, _ | ⟨z, l⟩⟩⟩ <;> first | rfl | (cases x <;> first | rfl | (rename_i a1 a2 a3 a4 a5; cases a4 <;> rfl)) | (cases y <;> first | rfl | (rename_i a1 a2; cases a2 <;> rfl)))
  all_goals (first | rfl | (simp only [List.mem_cons, List.not_mem_nil, or_false, forall_eq_or_imp, forall_eq, Array.mem_def] at h; simp [h]; done) | skip)

theorem pure_plain {D : Ty} {e : Operand → Option AV} {o : Oper} {a : AV} (h : pureA D e o = some a) : Op.plain o.op = true := by
  cases ho : o.op <;> first | rfl | (simp [pureA, ho] at h)

theorem pureA_prok {P : Program} {D : Ty} (hD : DOk P D) {q : Nat} (hq : q < 8) : PrOk P q (pureA D) := by
  intro e o a h μ w ρ he
  obtain ⟨v, hv, hr⟩ := pureA_ok hD hq he h w
  exact does_value (pure_plain h) hv ⟨rfl, hr⟩

end Go.Proofs.YtdkcihleblbkaaaGreatDoor.Eng

/- A verified symbolic executor, part 31: conversions, strings that share bytes. The lemmas hold of every program; no project text. -/
namespace Go.Proofs.YtdkcihleblbkaaaGreatDoor.Eng
set_option linter.unusedVariables false
set_option linter.unusedSimpArgs false
set_option linter.unusedSectionVars false
open Go
set_option linter.unusedSectionVars false
set_option linter.unusedVariables false
set_option linter.unusedSimpArgs false

theorem shape_row {w : World} {b : Nat} {c : Array Value} {et : TypeId} {fr : Nat × Nat} (h : w.heap[b]? = some (.cells c et fr)) : w.shape? b = some (et, c.size) := by simp [World.shape?, h]
theorem run_shape {P : Program} {w : World} (b : Nat) : (shape b).run P w = .ok (w.shape? b) w := by simp [shape, Sem.run]
theorem run_viewAt_row {P : Program} {w : World} {b : Nat} {c : Array Value} {et : TypeId} {fr : Nat × Nat} (h : w.heap[b]? = some (.cells c et fr)) : (viewAt b).run P w = .ok none w := by
  simp [viewAt, run_shape, shape_row h]
theorem run_cellsIn_row {P : Program} {w : World} {b : Nat} {c : Array Value} {et : TypeId} {fr : Nat × Nat} (h : w.heap[b]? = some (.cells c et fr)) : (cellsIn b).run P w = .ok (some c.size) w := by
  simp [cellsIn, run_shape, shape_row h]
theorem run_seenAt_row {P : Program} {w : World} {b o : Nat} {c : Array Value} {et : TypeId} {fr : Nat × Nat} (h : w.heap[b]? = some (.cells c et fr)) : (Conv.seenAt ⟨b, o, none⟩).run P w = .ok ⟨b, o, none⟩ w := by
  simp [Conv.seenAt, run_viewAt_row h]
theorem run_frozen {P : Program} {w : World} (a : Addr) : (frozen a).run P w = .ok (w.frozen? a) w := by simp [frozen, Sem.run]
theorem frozen_row {w : World} {b o : Nat} {c : Array Value} {et : TypeId} {fr : Nat × Nat} (h : w.heap[b]? = some (.cells c et fr)) : w.frozen? ⟨b, o, none⟩ = (decide (fr.1 ≤ o) && decide (o < fr.2)) := by simp [World.frozen?, h]

theorem run_variablesAt_row {P : Program} {w : World} {b o n : Nat} {u : TypeId} {c : Array Value} {et : TypeId} {fr : Nat × Nat} (h : w.heap[b]? = some (.cells c et fr)) :
    (variablesAt ⟨b, o, none⟩ u n).run P w = .ok (liesAt P P.depth et (c.size / P.cellsOf et) o u n) w := by
  simp [variablesAt, program, Sem.run, shape, shape_row h]

section ops
variable {P : Program} {D : Ty} (hD : DOk P D) {q : Nat} (hq : q < 8) {μ : Mu} {st : St} {w : World} (hr : HRep q μ st.h w) (hf : ∀ id, st.nx ≤ id → μ id = none) {e : Operand → Option AV} {ρ : Operand → Value} (he : EvOk q μ e ρ) {o : Oper}
include hD hq hr hf he

theorem known_lt {id off : Nat} {l : Loc} (hl : μ id = some l) (h : off < knownCells st id) : ∃ (c : Array Value) (et : TypeId) (fr : Nat × Nat), w.heap[l.blk]? = some (.cells c et fr) ∧ l.base + off < c.size := by
  unfold knownCells at h
  split at h
  · rename_i et cells opn b0 fz sm hat
    obtain ⟨l', c, fr, k0, k1, k2, k3, _⟩ := row_out hr hat hl
    rw [hl] at k0
    obtain rfl := Option.some.inj k0
    exact ⟨c, et, fr, k1, by omega⟩
  · omega

theorem toUptr_does {src dst el : TypeId} {x : Operand} {ts td te : TI} {i off : Nat} (ho : o.op = .convert src dst x) (hs : D src = some ts) (hsc : ts.cls = .ptr el) (hd : D dst = some td) (hdc : td.cls = .uptr) (hte : D el = some te) (hsz : 0 < te.size)
    (hx : e x = some (.ptr i off)) (hk : off < knownCells st i) : OpDoes P o ρ w (Post q μ st w [(.ptr i off, st)]) := by
  obtain ⟨d1, a1, a2, a3⟩ := run_und hD w hs
  obtain ⟨d2, b1, b2, b3⟩ := run_und hD w hd
  rw [hsc] at a2
  rw [hdc] at b2
  obtain rfl := cls_ptr a2
  obtain rfl := cls_uptr b2
  have hx' := he x _ hx
  have hx2 := hx'
  simp only [Rep] at hx'
  obtain ⟨l, hl, hv⟩ := hx'
  obtain ⟨c, et, fr, hc, hlt⟩ := known_lt hD hq hr hf he hl hk
  refine does_value (v := .pointer (some ⟨l.blk, l.base + off, none⟩)) (w' := w) (by rw [ho]; rfl) (value_of (s := convert src dst (ρ x)) (by simp only [execOp, ho]) ?_) (post_pure hr hf (by rw [← hv]; exact hx2))
  have hn : ¬ (te.size = 0) := by omega
  have hn2 : ¬ (c.size ≤ l.base + off) := by omega
  simp [convert, a3, b3, hv, Conv.unsafePointer, run_seenAt_row hc, run_cellsIn_row hc, run_size hD w hte, hn, hn2]

theorem toPtr_does {src dst u : TypeId} {x : Operand} {ts td tu : TI} {i : Nat} {cells : List AV} {fz : Nat} {sm : Bool} (ho : o.op = .convert src dst x) (hs : D src = some ts) (hsc : ts.cls = .uptr) (hd : D dst = some td) (hdc : td.cls = .ptr u) (htu : D u = some tu) (hsz : 0 < tu.size)
    (hx : e x = some (.ptr i 0)) (hat : st.h.at_ i = some (.row u cells false true fz sm)) (hlen : cells.length = tu.size) : OpDoes P o ρ w (Post q μ st w [(.ptr i 0, st)]) := by
  obtain ⟨d1, a1, a2, a3⟩ := run_und hD w hs
  obtain ⟨d2, b1, b2, b3⟩ := run_und hD w hd
  rw [hsc] at a2
  rw [hdc] at b2
  obtain rfl := cls_uptr a2
  obtain rfl := cls_ptr b2
  have hx' := he x _ hx
  have hx2 := hx'
  simp only [Rep] at hx'
  obtain ⟨l, hl, hv⟩ := hx'
  obtain ⟨l', c, fr, k0, k1, k2, k3, k4, k5, _⟩ := row_out hr hat hl
  rw [hl] at k0
  obtain rfl := Option.some.inj k0
  have hb := k5 rfl
  have htot := k4 rfl
  obtain ⟨iu, _, u2, _, u4⟩ := run_info hD w htu
  have hcs : P.cellsOf u = tu.size := by simp [Program.cellsOf, u4, u2]
  have hcsz : c.size = tu.size := by omega
  refine does_value (v := .pointer (some ⟨l.blk, l.base + 0, none⟩)) (w' := w) (by rw [ho]; rfl) (value_of (s := convert src dst (ρ x)) (by simp only [execOp, ho]) ?_) (post_pure hr hf (by rw [← hv]; exact hx2))
  have hrow : ∀ d, rowAt P (fun t => sameLayout P (d + 1) t u) (d + 1) u (c.size / P.cellsOf u) (l.base + 0) 1 = true := by
    intro d
    have h0 : ¬ (P.cellsOf u = 0) := by omega
    unfold rowAt
    simp only [h0, if_false]
    have h1 : c.size / P.cellsOf u = 1 := by rw [hcs, hcsz]; exact Nat.div_self hsz
    rw [h1, hb]
    simp [sameLayout]
  have hlies : liesAt P P.depth u (c.size / P.cellsOf u) (l.base + 0) u 1 = true := by
    have hdep : P.depth = (2 * (P.types.size + Made.depth) + 1) + 1 := rfl
    rw [hdep]
    unfold liesAt
    rw [hdep, hrow]
    rfl
  have hva := run_variablesAt_row (P := P) (o := l.base + 0) (u := u) (n := 1) k1
  rw [hlies] at hva
  simp only [convert, Sem.run_bind, a3, b3, Result.andThen_ok, hv, Conv.unsafePointer, run_seenAt_row k1, run_size hD w htu, hva]
  simp

end ops
end Go.Proofs.YtdkcihleblbkaaaGreatDoor.Eng

/- A verified symbolic executor, part 32: strings out of bytes, bytes out of strings. The lemmas hold of every program; no project text. -/
namespace Go.Proofs.YtdkcihleblbkaaaGreatDoor.Eng
set_option linter.unusedVariables false
set_option linter.unusedSimpArgs false
set_option linter.unusedSectionVars false
open Go
set_option linter.unusedSectionVars false
set_option linter.unusedVariables false
set_option linter.unusedSimpArgs false

def byteV (c : UInt8) : Value := .int .u8 c.toNat

theorem ofByte_ok {q : Nat} (hq : q < 8) {μ : Mu} {a : AV} {n : Nat} {v : Value} (h : ofByte a = some n) (r : Rep q μ a v) : ∃ c : UInt8, v = byteV c ∧ ByteR q n c := by
  unfold ofByte at h
  split at h
  · rename_i m
    cases hb : Nat.blt m 256 with
    | false => simp [hb] at h
    | true =>
      simp only [hb, cond_true, Option.some.injEq] at h; subst h
      have hlt := blt_lt hb
      simp only [Rep] at r; subst r
      refine ⟨UInt8.ofNat m, ?_, ?_, fun h => by omega⟩
      · simp [byteV, UInt8.toNat_ofNat', Nat.mod_eq_of_lt hlt]
      · intro _; simp [UInt8.toNat_ofNat', Nat.mod_eq_of_lt hlt]
  · rename_i c
    cases hb : decide (c = 48) with
    | false => simp [hb] at h
    | true =>
      simp only [hb, cond_true, Option.some.injEq] at h; subst h
      simp only [decide_eq_true_eq] at hb; subst hb
      simp only [Rep] at r; subst r
      refine ⟨UInt8.ofNat (48 + q), ?_, fun h => by omega, fun _ => ?_⟩
      · simp only [byteV, UInt8.toNat_ofNat']
        rw [Nat.mod_eq_of_lt (by omega)]
        congr 1; omega
      · simp only [UInt8.toNat_ofNat']
        exact Nat.mod_eq_of_lt (by omega)
  · rename_i lo hi
    cases hb : (decide (0 ≤ lo) && decide (hi ≤ 255)) with
    | false => simp [hb] at h
    | true =>
      simp only [hb, cond_true, Option.some.injEq] at h; subst h
      simp only [Bool.and_eq_true, decide_eq_true_eq] at hb
      simp only [Rep] at r
      obtain ⟨m, rfl, h1, h2⟩ := r
      refine ⟨UInt8.ofNat m.toNat, ?_, fun h => by omega, fun h => by omega⟩
      simp only [byteV, UInt8.toNat_ofNat']
      rw [Nat.mod_eq_of_lt (by omega)]
      congr 1; omega
  · cases h

theorem ofBytes_ok {q : Nat} (hq : q < 8) {μ : Mu} : ∀ {cs : List AV} {s : List Nat} {vs : List Value}, ofBytes cs = some s → RepL q μ cs vs → ∃ l : List UInt8, vs = l.map byteV ∧ BytesR q s l
  | [], s, vs, h, r => by
    simp only [ofBytes, Option.some.injEq] at h; subst h
    cases vs with
    | nil => exact ⟨[], rfl, by simp [BytesR]⟩
    | cons _ _ => simp [RepL] at r
  | a :: cs, s, vs, h, r => by
    simp only [ofBytes] at h
    split at h
    · rename_i n s' h1 h2
      simp only [Option.some.injEq] at h; subst h
      cases vs with
      | nil => simp [RepL] at r
      | cons v vs =>
        simp only [RepL] at r
        obtain ⟨c, rfl, hc⟩ := ofByte_ok hq h1 r.1
        obtain ⟨l, rfl, hl⟩ := ofBytes_ok hq h2 r.2
        exact ⟨c :: l, rfl, by simp only [BytesR]; exact ⟨hc, hl⟩⟩
    · cases h

theorem push_bytes : ∀ (l : List UInt8) (s : ByteArray), (l.map fun c => ((c.toNat : Nat) : Int)).foldl (fun (r : ByteArray) n => r.push (UInt8.ofNat n.toNat)) s = ⟨s.data ++ l.toArray⟩
  | [], s => by simp
  | c :: l, s => by
    simp only [List.map_cons, List.foldl_cons]
    rw [push_bytes l]
    apply ByteArray.ext
    simp [ByteArray.push]

section ops
variable {P : Program} {D : Ty} (hD : DOk P D) {q : Nat} (hq : q < 8) {μ : Mu} {st : St} {w : World} (hr : HRep q μ st.h w) (hf : ∀ id, st.nx ≤ id → μ id = none) {e : Operand → Option AV} {ρ : Operand → Value} (he : EvOk q μ e ρ) {o : Oper}
include hD hq hr hf he

theorem toStr_does {src dst el : TypeId} {x : Operand} {ts td te : TI} {a : AV} {id off len es : Nat} {cap : Option Nat} {cs : List AV} {s : List Nat} (ho : o.op = .convert src dst x) (hs : D src = some ts) (hsc : ts.cls = .sl el) (hd : D dst = some td) (hdc : td.cls = .str) (hte : D el = some te) (hel : te.cls = .int .u8)
    (hx : e x = some (.sl id off len cap es)) (hes : es = 1) (hsrc : srcCells st 1 len (.sl id off len none es) = some cs) (hb : ofBytes cs = some s) : OpDoes P o ρ w (Post q μ st w [(.str s, st)]) := by
  obtain ⟨d1, a1, a2, a3⟩ := run_und hD w hs
  obtain ⟨d2, b1, b2, b3⟩ := run_und hD w hd
  obtain ⟨d4, c1, c2, c3⟩ := run_und hD w hte
  rw [hsc] at a2
  rw [hdc] at b2
  rw [hel] at c2
  obtain rfl := cls_sl a2
  obtain rfl := cls_str b2
  obtain rfl := cls_int c2
  subst hes
  have hx' := he x _ hx
  simp only [Rep] at hx'
  obtain ⟨l, c, hl, hv, h1, h2, h3, h4, h5⟩ := hx'
  unfold srcCells at hsrc
  simp only [Nat.beq_refl, Bool.true_and, Nat.ble_eq, Nat.le_refl] at hsrc
  rw [show Nat.ble len len = true from by simp] at hsrc
  simp only [cond_true] at hsrc
  split at hsrc
  · rename_i et cells opn b0 fz sm hat
    obtain ⟨l', cc, fr, k0, k1, k2, k3, k4, k5, k6, _⟩ := row_out hr hat hl
    rw [hl] at k0
    obtain rfl := Option.some.inj k0
    obtain ⟨vs, v1, v2, v3, _⟩ := cells_read (P := P) k1 k6 hsrc
    obtain ⟨bs, rfl, hbs⟩ := ofBytes_ok hq hb v2
    rw [Nat.mul_one] at v1
    have hrun := run_bytesToString (P := P) w ⟨l.blk, l.base + off, none⟩ len c (bs.map fun c => ((c.toNat : Nat) : Int)) (by rw [v1]; congr 2; simp [byteV, Function.comp_def])
    rw [push_bytes] at hrun
    refine does_value (v := .string ⟨ByteArray.empty.data ++ bs.toArray⟩) (w' := w) (by rw [ho]; rfl) (value_of (s := convert src dst (ρ x)) (by simp only [execOp, ho]) ?_) (post_pure hr hf (by simp only [Rep]; exact ⟨_, rfl, by simpa using hbs⟩))
    simp only [convert, Sem.run_bind, a3, b3, c3, Result.andThen_ok, hv, hrun]
  · cases hsrc

theorem toStr0_does {src dst el : TypeId} {x : Operand} {ts td te : TI} (ho : o.op = .convert src dst x) (hs : D src = some ts) (hsc : ts.cls = .sl el) (hd : D dst = some td) (hdc : td.cls = .str) (hte : D el = some te) (hel : te.cls = .int .u8)
    (hx : e x = some .sl0) : OpDoes P o ρ w (Post q μ st w [(.str [], st)]) := by
  obtain ⟨d1, a1, a2, a3⟩ := run_und hD w hs
  obtain ⟨d2, b1, b2, b3⟩ := run_und hD w hd
  obtain ⟨d4, c1, c2, c3⟩ := run_und hD w hte
  rw [hsc] at a2
  rw [hdc] at b2
  rw [hel] at c2
  obtain rfl := cls_sl a2
  obtain rfl := cls_str b2
  obtain rfl := cls_int c2
  have hx' := he x _ hx
  simp only [Rep] at hx'
  refine does_value (v := .string .empty) (w' := w) (by rw [ho]; rfl) (value_of (s := convert src dst (ρ x)) (by simp only [execOp, ho]) ?_) (post_pure hr hf (by simp only [Rep]; exact ⟨_, rfl, by simp [BytesR]⟩))
  simp only [convert, Sem.run_bind, a3, b3, c3, Result.andThen_ok, hx', Conv.bytesToString, Sem.run_pure]

/-- a new row whose mark says that its bytes may be a string's -/
theorem run_markStringish {b : Nat} {c : Array Value} {et : TypeId} (h : w.heap[b]? = some (.cells c et (0, 0))) : (markStringish ⟨b, 0, none⟩).run P w = .ok () { w with heap := w.heap.setIfInBounds b (.cells c et (c.size, c.size + 1)) } := by
  have hb := (Array.getElem?_eq_some_iff.1 h).1
  have : w.freeze ⟨b, c.size, none⟩ 1 = { w with heap := w.heap.setIfInBounds b (.cells c et (c.size, c.size + 1)) } := by
    simp only [World.freeze]
    rw [if_neg (by omega)]
    congr 1
    apply Array.ext_getElem?
    intro k
    simp only [Array.getElem?_modify, Array.getElem?_setIfInBounds]
    by_cases hk : b = k
    · subst hk
      have hb2 := (Array.getElem?_eq_some_iff.1 h).2
      simp [hb, hb2]
    · simp [hk]
  simp [markStringish, run_shape, shape_row h, freeze, Sem.run, this]

theorem toBytes_does {src dst el : TypeId} {x : Operand} {ts td te : TI} {s : List Nat} (ho : o.op = .convert src dst x) (hs : D src = some ts) (hsc : ts.cls = .str) (hd : D dst = some td) (hdc : td.cls = .sl el) (hte : D el = some te) (hel : te.cls = .int .u8)
    (hx : e x = some (.str s)) (hsz : s.length ≤ 1000000) : OpDoes P o ρ w (Post q μ st w [(.sl st.nx 0 s.length none 1, st.open_ el (s.map byteA) true true)]) := by
  obtain ⟨d1, a1, a2, a3⟩ := run_und hD w hs
  obtain ⟨d2, b1, b2, b3⟩ := run_und hD w hd
  obtain ⟨d4, c1, c2, c3⟩ := run_und hD w hte
  rw [hsc] at a2
  rw [hdc] at b2
  rw [hel] at c2
  obtain rfl := cls_str a2
  obtain rfl := cls_sl b2
  obtain rfl := cls_int c2
  have hx' := he x _ hx
  simp only [Rep] at hx'
  obtain ⟨b, hv, hb⟩ := hx'
  have hbl := hb.length
  have hbs : b.size = s.length := hbl.symm
  let cap := (Question.appendCap b.size 0 el).cut (w.tape w.drawn (.appendCap b.size 0 el))
  have hcap : b.size ≤ cap ∧ cap < 9223372036854775808 := by
    simp only [cap, Question.cut]
    have : (w.tape w.drawn (.appendCap b.size 0 el)) % (2 ^ 63 - b.size) < 2 ^ 63 - b.size := Nat.mod_lt _ (by omega)
    omega
  let w1 : World := { w with drawn := w.drawn + 1 }
  let cells : Array Value := (b.data.map fun c => .int .u8 c.toNat) ++ Array.replicate (cap - b.size) (.int .u8 0)
  have hcsz : cells.size = cap := by simp only [cells, Array.size_append, Array.size_map, Array.size_replicate]; have : b.data.size = b.size := rfl; omega
  have hr1 : HRep q μ st.h w1 := HRep.of_heap (w := w) (w' := w1) rfl hr
  let w2 : World := { w1 with heap := w1.heap.push (.cells cells el (cells.size, cells.size + 1)) }
  have hext : Ext μ (μ.add st.nx ⟨w1.heap.size, 0, cells.size⟩) := Mu.add_ext (hf _ (Nat.le_refl _))
  have hrow : RowR q μ cells 0 (s.map byteA) := by
    have hrep := bytes_rep (μ := μ) hb
    intro i a ha
    obtain ⟨v, h1, h2⟩ := hrep.get i a ha
    refine ⟨v, ?_, h2⟩
    have hi : i < b.data.size := by
      have := (List.getElem?_eq_some_iff.1 h1).1
      simpa using this
    rw [Nat.zero_add]
    simp only [cells]
    rw [Array.getElem?_append_left (by simpa using hi), Array.getElem?_map]
    rw [List.getElem?_map] at h1
    rw [← Array.getElem?_toList]
    exact h1
  have hblk : Blk q (μ.add st.nx ⟨w1.heap.size, 0, cells.size⟩) (.row el (s.map byteA) true true 0 true) ⟨w1.heap.size, 0, cells.size⟩ (.cells cells el (cells.size, cells.size + 1)) :=
    ⟨cells, _, rfl, by simp, by simp; omega, (fun h => nomatch h), fun _ => rfl, hrow.mono hext, fun i _ hi => by simp at hi ⊢; omega, (fun h => nomatch h)⟩
  obtain ⟨g, h, f⟩ := new_ok (o := .cells cells el (cells.size, cells.size + 1)) hr1 hf rfl hblk
  have g0 : Good μ st w μ st w1 := Good.drew
  refine does_value (v := .slice (some ⟨w1.heap.size, 0, none⟩) b.size cap) (w' := w2) (by rw [ho]; rfl) (value_of (s := convert src dst (ρ x)) (by simp only [execOp, ho]) ?_) ?_
  · have hnew : ({ w1 with heap := w1.heap.push (.cells cells el) } : World).heap[w1.heap.size]? = some (.cells cells el (0, 0)) := by simp
    have hmark := run_markStringish (P := P) hD hq (w := { w1 with heap := w1.heap.push (.cells cells el) }) (st := { st with h := .leaf }) (μ := μ) ⟨fun id b l h => by simp [T.at_leaf] at h, fun id id' l l' h => by simp [T.at_leaf] at h⟩ hf he hnew
    have hw2 : ({ w1 with heap := (w1.heap.push (.cells cells el)).setIfInBounds w1.heap.size (.cells cells el (cells.size, cells.size + 1)) } : World) = w2 := by
      simp only [w2]
      congr 1
      apply Array.ext_getElem?
      intro k
      simp only [Array.getElem?_setIfInBounds, Array.getElem?_push, Array.size_push]
      by_cases hk : k = w1.heap.size
      · subst hk; simp
      · have hk' : ¬ (w1.heap.size = k) := fun h => hk h.symm
        rw [if_neg hk', if_neg hk, if_neg hk]
    have hch : (choose (.appendCap b.size 0 el)).run P w = .ok cap w1 := by simp [choose, Sem.run, Question.forced, cap, w1]
    simp only [convert, Sem.run_bind, a3, b3, c3, Result.andThen_ok, hv, Conv.stringToBytes, hch]
    have hnr : (newRow el ((b.data.map fun c => Value.int .u8 c.toNat) ++ Array.replicate (cap - b.size) (.int .u8 0))).run P w1 = .ok ⟨w1.heap.size, 0, none⟩ { w1 with heap := w1.heap.push (.cells cells el) } := by simp [newRow, newObj, Sem.run, cells]
    simp only [hnr, Result.andThen_ok, hmark, hw2, Sem.run_pure]
  · rw [hbs]
    refine post_new (st' := st.open_ el (s.map byteA) true true) ?_ (g0.trans hf g) h f (St.new_kept _ _)
    simp only [Rep]
    exact ⟨_, cap, Mu.add_same _ _ _, rfl, by simp; omega, (fun _ h => nomatch h), fun _ => by simp; omega, by omega, by omega⟩

end ops
end Go.Proofs.YtdkcihleblbkaaaGreatDoor.Eng

/- A verified symbolic executor, part 33: unsafe.String, maps. The lemmas hold of every program; no project text. -/
namespace Go.Proofs.YtdkcihleblbkaaaGreatDoor.Eng
set_option linter.unusedVariables false
set_option linter.unusedSimpArgs false
set_option linter.unusedSectionVars false
open Go Go.MapKept
set_option linter.unusedSectionVars false
set_option linter.unusedVariables false
set_option linter.unusedSimpArgs false

theorem cut_le {cs r : List AV} {off n : Nat} (h : cut cs off n = some r) : r.length = n ∧ (0 < n → off + n ≤ cs.length) := by
  unfold cut at h
  have h1 := takeN_length h
  refine ⟨h1, fun hn => ?_⟩
  have : ∀ (n : Nat) (l r : List AV), takeN n l = some r → n ≤ l.length := by
    intro n
    induction n with
    | zero => intro l r _; omega
    | succ n ih =>
      intro l r h
      cases l with
      | nil => simp [takeN] at h
      | cons a l =>
        simp only [takeN] at h
        split at h
        · rename_i r' hr'; have := ih l r' hr'; simp; omega
        · cases h
  have := this n _ _ h
  simp at this
  omega

theorem freeze_row {w : World} {b o n : Nat} {c : Array Value} {et : TypeId} {fr : Nat × Nat} (h : w.heap[b]? = some (.cells c et fr)) (hn : n ≠ 0) :
    w.freeze ⟨b, o, none⟩ n = { w with heap := w.heap.setIfInBounds b (.cells c et (if fr.1 == fr.2 then (o, o + n) else (min fr.1 o, max fr.2 (o + n)))) } := by
  simp only [World.freeze]
  rw [if_neg hn]
  congr 1
  have hb := (Array.getElem?_eq_some_iff.1 h).1
  have hb2 := (Array.getElem?_eq_some_iff.1 h).2
  apply Array.ext_getElem?
  intro k
  simp only [Array.getElem?_modify, Array.getElem?_setIfInBounds]
  by_cases hk : b = k
  · subst hk
    obtain ⟨lo, hi⟩ := fr
    simp [hb, hb2]
  · simp [hk]

theorem liesAt_off {P : Program} {e : TypeId} (hc : P.cellsOf e = 1) (count off n : Nat) (hn : off + n ≤ count) : liesAt P P.depth e (count / P.cellsOf e) off e n = true := by
  have hd : P.depth = (2 * (P.types.size + Made.depth) + 1) + 1 := rfl
  rw [hd]
  simp only [liesAt, Bool.or_eq_true]
  left
  rw [hd]
  simp [rowAt, hc, hn, sameLayout, Nat.mod_one]

theorem unsafeString_none_def (ts : Array TypeId) (ty : TypeId) (k : IntKind) (n : Int) : Builtin.unsafeString_ ts ty #[.pointer none, .int k n] = (do
    let n ← asInt (.int k n)
    let some pt := ts[0]? | stuck "unsafe.String: no argument types"
    if n < 0 then runtimePanic (.error "unsafe.String: len out of range")
    if n > IntKind.i64.max then unsupported (.unsafePointer "String: a length above the largest int")
    if n = 0 then pure (.string .empty)
    else runtimePanic (.error "unsafe.String: ptr is nil and len is not zero")) := rfl

theorem unsafeString_some_def (ts : Array TypeId) (ty : TypeId) (a : Addr) (k : IntKind) (n : Int) : Builtin.unsafeString_ ts ty #[.pointer (some a), .int k n] = (do
    let n ← asInt (.int k n)
    let some pt := ts[0]? | stuck "unsafe.String: no argument types"
    if n < 0 then runtimePanic (.error "unsafe.String: len out of range")
    if n > IntKind.i64.max then unsupported (.unsafePointer "String: a length above the largest int")
    if n = 0 then pure (.string .empty)
    else if ← variablesAt a (← elemOf pt) n.toNat then do
      let s ← loadBytes a .empty n.toNat
      freeze a n.toNat
      pure (.string s)
    else unsupported (.unsafePointer "String: not so many bytes at ptr")) := rfl

section ops
variable {P : Program} {D : Ty} (hD : DOk P D) {q : Nat} (hq : q < 8) {μ : Mu} {st : St} {w : World} (hr : HRep q μ st.h w) (hf : ∀ id, st.nx ≤ id → μ id = none) {e : Operand → Option AV} {ρ : Operand → Value} (he : EvOk q μ e ρ) {o : Oper}
include hD hq hr hf he

theorem unsafeStr_ok {ts : List TypeId} {ty : TypeId} {a : AV} {va : Value} {n : Nat} {k : IntKind} {rets : Ret} (h : unsafeStrA D st ts a n = some rets) (ha : Rep q μ a va) (hn : n ≤ 1000000) :
    ∃ v w', (Builtin.unsafeString_ ts.toArray ty #[va, .int k n]).run P w = .ok v w' ∧ Post q μ st w rets v w' := by
  have hmax : IntKind.i64.max = 9223372036854775807 := rfl
  have hneg : ¬ ((n : Int) < 0) := by omega
  have h63 : ¬ ((9223372036854775807 : Int) < (n : Int)) := by omega
  have hempty : Rep q μ (.str []) (.string .empty) := by simp only [Rep]; exact ⟨_, rfl, by simp [BytesR]⟩
  unfold unsafeStrA at h
  split at h
  · rename_i pt ts'
    cases hb : Nat.beq n 0 with
    | false => simp [hb] at h
    | true =>
      simp only [hb, cond_true, Option.some.injEq] at h; subst h
      have h0 := beq_nat hb
      subst h0
      simp only [Rep] at ha; subst ha
      refine ⟨.string .empty, w, ?_, post_pure hr hf hempty⟩
      rw [unsafeString_none_def]
      simp [asInt, asIntOf, hmax]
  · rename_i pt ts' id off
    simp only [Rep] at ha
    obtain ⟨l, hl, rfl⟩ := ha
    cases hb : Nat.beq n 0 with
    | true =>
      simp only [hb, cond_true, Option.some.injEq] at h; subst h
      have h0 := beq_nat hb
      subst h0
      refine ⟨.string .empty, w, ?_, post_pure hr hf hempty⟩
      rw [unsafeString_some_def]
      simp [asInt, asIntOf, hmax]
    | false =>
      have hn0 : n ≠ 0 := fun e => by subst e; simp at hb
      simp only [hb, cond_false] at h
      split at h
      · rename_i el sz by_ z eq hpt
        split at h
        · rename_i ti et cells opn b0 fz hti hat
          cases hc : (st.canW id && Nat.beq et el && Nat.beq ti.size 1 && Nat.ble fz (off + n)) with
          | false => simp [hc] at h
          | true =>
            simp only [hc, cond_true] at h
            simp only [Bool.and_eq_true, Nat.ble_eq] at hc
            obtain ⟨⟨⟨hw, het⟩, hsz⟩, hfz⟩ := hc
            have het := beq_nat het
            have hsz := beq_nat hsz
            subst het
            split at h
            · rename_i cs hcut
              split at h
              · rename_i s hs
                simp only [Option.some.injEq] at h; subst h
                obtain ⟨d, d1, d2, d3⟩ := run_und hD w hpt
                obtain rfl := cls_ptr d2
                obtain ⟨iu, _, u2, _, u4⟩ := run_info hD w hti
                have hcs : P.cellsOf et = 1 := by simp [Program.cellsOf, u4, u2, hsz]
                obtain ⟨l', c, fr, k0, k1, k2, k3, k4, k5, k6, k7, k8⟩ := row_out hr hat hl
                rw [hl] at k0
                obtain rfl := Option.some.inj k0
                obtain ⟨vs, v1, v2, v3, v4⟩ := cells_read (P := P) k1 k6 hcut
                obtain ⟨bs, rfl, hbs⟩ := ofBytes_ok hq hs v2
                simp only [List.length_map] at v3
                have hle := (cut_le hcut).2 (by omega)
                have hlb := Go.Lib.run_loadBytes (P := P) w bs ⟨l.blk, l.base + off, none⟩ .empty (fun j x hj => by rw [addr_add, cell_of k1]; exact v4 j _ (by simp [hj, byteV]))
                rw [v3] at hlb
                have hlies := liesAt_off (P := P) hcs c.size (l.base + off) n (by omega)
                have hva := run_variablesAt_row (P := P) (o := l.base + off) (u := et) (n := n) k1
                rw [hlies] at hva
                obtain ⟨k8a, k8b⟩ := k8 rfl
                have hfrz := freeze_row (o := l.base + off) k1 hn0
                have hblk := (Array.getElem?_eq_some_iff.1 k1).1
                generalize hfr' : (if fr.1 == fr.2 then (l.base + off, l.base + off + n) else (min fr.1 (l.base + off), max fr.2 (l.base + off + n))) = fr' at hfrz
                have hfr2 : fr'.2 ≤ l.base + (off + n) ∧ fr'.1 ≤ l.base + off := by
                  rw [← hfr']
                  by_cases hh : fr.1 = fr.2
                  · simp [hh]; omega
                  · rw [if_neg (by simpa using hh)]
                    simp only
                    rcases k8b with hx | hx
                    · exact absurd hx hh
                    · omega
                have hturn := turn_ok (o := .cells c et fr') (b := .row et cells opn b0 (off + n) false) (w' := { w with heap := w.heap.setIfInBounds l.blk (.cells c et fr') }) hr (by rw [hat]; simp) hw hl
                  ⟨c, fr', rfl, k2, k3, k4, k5, k6, fun i hi hi2 => by omega, fun _ => ⟨by omega, .inr (by omega)⟩⟩ rfl rfl rfl (by simp) (by simp [hblk]) (fun k hk => Array.getElem?_setIfInBounds_ne (fun e => hk e.symm))
                refine ⟨.string ⟨ByteArray.empty.data ++ bs.toArray⟩, _, ?_, .str s, _, by simp, μ, by simp only [Rep]; exact ⟨_, rfl, by simpa using hbs⟩, hturn.1, hturn.2, hf, St.turn_kept _ _ _⟩
                have hn0' : ¬ ((n : Int) = 0) := by omega
                have hfreeze : (freeze ⟨l.blk, l.base + off, none⟩ n).run P w = .ok () { w with heap := w.heap.setIfInBounds l.blk (.cells c et fr') } := by
                  simp only [freeze, Sem.run, hfrz]
                rw [unsafeString_some_def]
                simp [asInt, asIntOf, hmax, hneg, h63, hn0', hn0, elemOf, d3, hva, hlb, hfreeze, hfrz]
              · cases h
            · cases h
        · cases h
      · cases h
  · cases h

theorem lookL_ok : ∀ {k : List Nat} {es : List (AV × AV)} {ents : List MapEntry} {r : Option AV} {kb : ByteArray} (i : Nat), lookL k es = some r → MapR q μ es ents → BytesR q k kb.data.toList →
    (r = none → Instr.findNow .string (.string kb) ents i = some none) ∧ ∀ a, r = some a → ∃ v, Instr.findNow .string (.string kb) ents i = some (some v) ∧ Rep q μ a v.2
  | k, [], ents, r, kb, i, h, hm, hk => by
    simp only [lookL, Option.some.injEq] at h; subst h
    cases ents with
    | nil => exact ⟨fun _ => rfl, (fun _ h => nomatch h)⟩
    | cons _ _ => simp [MapR] at hm
  | k, (ak, av) :: es, ents, r, kb, i, h, hm, hk => by
    cases ents with
    | nil => simp [MapR] at hm
    | cons en ents =>
      simp only [MapR] at hm
      obtain ⟨m1, m2, m3⟩ := hm
      cases ak with
      | str s =>
        simp only [Rep] at m1
        obtain ⟨sb, hsb, hs⟩ := m1
        obtain ⟨r0, hsame, hiff⟩ := sameNow_of_keys (d := .string) (a := .string kb) (b := .string sb) trivial trivial
        have hne : ∀ o, cmpS k s = some o → o ≠ .eq → r0 = false := by
          intro o ho hn
          have := cmpS_ok hq ho hk hs
          cases hr0 : r0 with
          | false => rfl
          | true =>
            have heq := hiff.1 hr0
            simp only [Value.string.injEq] at heq
            subst heq
            cases o <;> simp_all [ordR]
        simp only [lookL] at h
        split at h
        · rename_i hc
          simp only [Option.some.injEq] at h; subst h
          have := cmpS_ok hq hc hk hs
          simp only [ordR] at this
          have hr0 : r0 = true := hiff.2 (by congr 1; exact ByteArray.ext (Array.ext' this.2))
          refine ⟨fun h => (nomatch h), fun a ha => ⟨(i, en.val), ?_, by obtain rfl := Option.some.inj ha; exact m2⟩⟩
          simp only [Instr.findNow, hsb, hsame, hr0]
        · rename_i o ho hn
          have hr0 := hne o hn (fun e => ho e)
          have ih := lookL_ok (i + 1) h m3 hk
          simp only [Instr.findNow, hsb, hsame, hr0]
          exact ih
        · cases h
      | _ => simp [lookL] at h

theorem lookup_does {t kt el : TypeId} {x ix : Operand} {tt tk : TI} {ok : Bool} {id : Nat} {k : List Nat} {es : List (AV × AV)} {rv : Option AV} {r : AV} (ho : o.op = .lookup t x ix ok) (ht : D t = some tt) (hs : tt.cls = .map kt el) (htk : D kt = some tk) (hks : tk.cls = .str)
    (hx : e x = some (.map id)) (hix : e ix = some (.str k)) (hat : st.h.at_ id = some (.map es)) (hl : lookL k es = some rv)
    (hrv : (∃ v, rv = some v ∧ r = bif ok then .tup [v, .bool true] else v) ∨ (rv = none ∧ ∃ te z, D el = some te ∧ te.zero = some z ∧ r = bif ok then .tup [z, .bool false] else z)) : OpDoes P o ρ w (Post q μ st w [(r, st)]) := by
  obtain ⟨d, d1, d2, d3⟩ := run_und hD w ht
  rw [hs] at d2
  obtain rfl := cls_map d2
  obtain ⟨dk, e1, e2, e3⟩ := run_und hD w htk
  rw [hks] at e2
  obtain rfl := cls_str e2
  have hx' := he x _ hx
  have hix' := he ix _ hix
  simp only [Rep] at hx' hix'
  obtain ⟨l, hml, hv⟩ := hx'
  obtain ⟨kb, hkv, hkb⟩ := hix'
  obtain ⟨ents, clk, hm, hmr⟩ := map_out hr hat hml
  obtain ⟨f1, f2⟩ := lookL_ok hD hq hr hf he 0 hl hmr hkb
  have hck : (Instr.checkKey ents.isEmpty 10000 kt (.string kb)).run P w = .ok () w := run_checkKey (d := .string) (k := .string kb) e1 trivial _ 9999
  rcases hrv with ⟨v, rfl, rfl⟩ | ⟨rfl, te, z, hte, hz, rfl⟩
  · obtain ⟨⟨j, val⟩, g1, g2⟩ := f2 v rfl
    have hfk := run_findKey (P := P) (w := w) e1 g1
    refine does_value (v := if ok then .tuple #[val, .bool true] else val) (w' := w) (by rw [ho]; rfl) (value_of (s := Instr.lookup t (ρ x) (ρ ix) ok) (by simp only [execOp, ho]) ?_) (post_pure hr hf ?_)
    · simp [Instr.lookup, d3, hv, hkv, run_getObj hm, hck, hfk]
    · cases ok with
      | true => simp only [cond_true, if_true, Rep]; exact ⟨_, rfl, by simp [RepL, Rep]; exact g2⟩
      | false => simpa using g2
  · obtain ⟨zv, z1, z2⟩ := run_zero hD w hte hz
    have hfk := run_findKey (P := P) (w := w) e1 (f1 rfl)
    refine does_value (v := if ok then .tuple #[zv, .bool false] else zv) (w' := w) (by rw [ho]; rfl) (value_of (s := Instr.lookup t (ρ x) (ρ ix) ok) (by simp only [execOp, ho]) ?_) (post_pure hr hf ?_)
    · simp [Instr.lookup, d3, hv, hkv, run_getObj hm, hck, hfk, z1]
    · cases ok with
      | true => simp only [cond_true, if_true, Rep]; exact ⟨_, rfl, by simp [RepL, Rep]; exact ofVal_rep z2⟩
      | false => simpa using ofVal_rep z2

theorem putL_ok : ∀ {k : List Nat} {v : AV} {es r : List (AV × AV)} {ents : List MapEntry} {kb : ByteArray} {val : Value} (i : Nat), putL k v es = some r → MapR q μ es ents → BytesR q k kb.data.toList → Rep q μ v val →
    (∃ j old, Instr.findNow .string (.string kb) ents i = some (some (i + j, old)) ∧ (∃ en, ents[j]? = some en ∧ en.key = .string kb) ∧ ∀ f : MapEntry → MapEntry, (∀ en, (f en).key = .string kb ∧ (f en).val = val) → MapR q μ r (ents.modify j f)) ∨
    (Instr.findNow .string (.string kb) ents i = some none ∧ ∀ en : MapEntry, en.key = .string kb → en.val = val → MapR q μ r (ents ++ [en]))
  | k, v, [], r, ents, kb, val, i, h, hm, hk, hv => by
    simp only [putL, Option.some.injEq] at h; subst h
    cases ents with
    | nil =>
      refine .inr ⟨rfl, fun en h1 h2 => ?_⟩
      simp only [List.nil_append, MapR, h1, h2, and_true, Rep]
      exact ⟨⟨kb, rfl, hk⟩, hv⟩
    | cons _ _ => simp [MapR] at hm
  | k, v, (ak, av) :: es, r, ents, kb, val, i, h, hm, hk, hv => by
    cases ents with
    | nil => simp [MapR] at hm
    | cons en ents =>
      simp only [MapR] at hm
      obtain ⟨m1, m2, m3⟩ := hm
      cases ak with
      | str s =>
        have m1' := m1
        simp only [Rep] at m1
        obtain ⟨sb, hsb, hs⟩ := m1
        obtain ⟨r0, hsame, hiff⟩ := sameNow_of_keys (d := .string) (a := .string kb) (b := .string sb) trivial trivial
        have hne : ∀ o, cmpS k s = some o → o ≠ .eq → r0 = false := by
          intro o ho hn
          have := cmpS_ok hq ho hk hs
          cases hr0 : r0 with
          | false => rfl
          | true =>
            have heq := hiff.1 hr0
            simp only [Value.string.injEq] at heq
            subst heq
            cases o <;> simp_all [ordR]
        simp only [putL] at h
        split at h
        · rename_i hc
          simp only [Option.some.injEq] at h; subst h
          have := cmpS_ok hq hc hk hs
          simp only [ordR] at this
          have hkeq : kb = sb := ByteArray.ext (Array.ext' this.2)
          have hr0 : r0 = true := hiff.2 (by rw [hkeq])
          refine .inl ⟨0, en.val, by simp only [Instr.findNow, hsb, hsame, hr0, Nat.add_zero], ⟨en, rfl, by rw [hsb, hkeq]⟩, fun f hfe => ?_⟩
          simp only [List.modify_zero_cons, MapR]
          obtain ⟨f1, f2⟩ := hfe en
          exact ⟨by rw [f1]; simp only [Rep]; exact ⟨kb, rfl, hk⟩, by rw [f2]; exact hv, m3⟩
        · rename_i o ho hn
          have hr0 := hne o hn (fun e => ho e)
          split at h
          · rename_i r' hr'
            simp only [Option.some.injEq] at h; subst h
            simp only [Instr.findNow, hsb, hsame, hr0]
            rcases putL_ok (i + 1) hr' m3 hk hv with ⟨j, old, g1, g2, g3⟩ | ⟨g1, g2⟩
            · refine .inl ⟨j + 1, old, by rw [g1]; congr 3; omega, by simpa using g2, fun f hfe => ?_⟩
              simp only [List.modify_succ_cons, MapR]
              exact ⟨m1', m2, g3 f hfe⟩
            · refine .inr ⟨g1, fun en' h1 h2 => ?_⟩
              simp only [List.cons_append, MapR]
              exact ⟨m1', m2, g2 en' h1 h2⟩
          · cases h
        · cases h
      | _ => simp [putL] at h

theorem mapUpdate_does {t kt el : TypeId} {x kx vx : Operand} {tt tk : TI} {id : Nat} {k : List Nat} {v : AV} {es es' : List (AV × AV)} (ho : o.op = .mapUpdate t x kx vx) (ht : D t = some tt) (hs : tt.cls = .map kt el) (htk : D kt = some tk) (hks : tk.cls = .str)
    (hx : e x = some (.map id)) (hk : e kx = some (.str k)) (hv : e vx = some v) (hw : st.canW id = true) (hat : st.h.at_ id = some (.map es)) (hl : putL k v es = some es') : OpDoes P o ρ w (Post q μ st w [(undefA, st.turn id (.map es'))]) := by
  obtain ⟨d, d1, d2, d3⟩ := run_und hD w ht
  rw [hs] at d2
  obtain rfl := cls_map d2
  obtain ⟨dk, e1, e2, e3⟩ := run_und hD w htk
  rw [hks] at e2
  obtain rfl := cls_str e2
  have hx' := he x _ hx
  have hk' := he kx _ hk
  have hv' := he vx _ hv
  simp only [Rep] at hx' hk'
  obtain ⟨l, hml, hmv⟩ := hx'
  obtain ⟨kb, hkv, hkb⟩ := hk'
  obtain ⟨ents, clk, hm, hmr⟩ := map_out hr hat hml
  have hblk := (Array.getElem?_eq_some_iff.1 hm).1
  have hck : (Instr.checkKey false 10000 kt (.string kb)).run P w = .ok () w := run_checkKey (d := .string) (k := .string kb) e1 trivial _ 9999
  have hset : ∀ ob : Obj, (setObj l.blk ob).run P w = .ok () { w with heap := w.heap.setIfInBounds l.blk ob } := fun ob => by simp [setObj, Sem.run, hm]
  have fin : ∀ (ents' : Array MapEntry) (clk' : Nat), MapR q μ es' ents'.toList → (Instr.mapUpdate t (ρ x) (ρ kx) (ρ vx)).run P w = .ok () { w with heap := w.heap.setIfInBounds l.blk (.map ents' clk') } → OpDoes P o ρ w (Post q μ st w [(undefA, st.turn id (.map es'))]) := by
    intro ents' clk' hr' hrun
    obtain ⟨g, h⟩ := turn_ok (o := .map ents' clk') (b := .map es') (w' := { w with heap := w.heap.setIfInBounds l.blk (.map ents' clk') }) hr (by rw [hat]; simp) hw hml ⟨ents', clk', rfl, hr'⟩ rfl rfl rfl (by simp) (by simp [hblk]) (fun k hk => Array.getElem?_setIfInBounds_ne (fun e => hk e.symm))
    refine does_skip (w' := _) (by rw [ho]; rfl) (skip_of (s := Instr.mapUpdate t (ρ x) (ρ kx) (ρ vx)) (by simp only [execOp, ho]) hrun) ?_
    exact ⟨undefA, _, by simp, μ, by simp only [undefA, undef, Rep]; exact ⟨#[], rfl, by simp [RepL]⟩, g, h, hf, St.turn_kept _ _ _⟩
  rcases putL_ok hD hq hr hf he 0 hl hmr hkb hv' with ⟨j, old, g1, ⟨en, g2, g2'⟩, g3⟩ | ⟨g1, g2⟩
  · have hfk := run_findKey (P := P) (w := w) e1 g1
    rw [Nat.zero_add] at hfk
    have hkeep : (Instr.keyThatStays (((ents[j]?).map (·.key)).getD (.string kb)) (.string kb)).run P w = .ok (.string kb) w := by
      rw [Array.getElem?_toList] at g2
      rw [g2]
      simp only [Option.map_some, Option.getD_some, g2']
      exact run_keyThatStays (d := .string) trivial
    refine fin (ents.modify j fun en => { en with key := .string kb, val := ρ vx }) clk ?_ ?_
    · rw [Array.toList_modify]
      exact g3 _ fun en => ⟨rfl, rfl⟩
    · simp [Instr.mapUpdate, d3, hmv, hkv, run_getObj hm, hck, hfk, hkeep, hset]
  · have hfk := run_findKey (P := P) (w := w) e1 g1
    refine fin (ents.push { key := .string kb, val := ρ vx, born := clk }) (clk + 1) ?_ ?_
    · rw [Array.toList_push]
      exact g2 _ rfl rfl
    · simp [Instr.mapUpdate, d3, hmv, hkv, run_getObj hm, hck, hfk, hset]

end ops
end Go.Proofs.YtdkcihleblbkaaaGreatDoor.Eng
