/- A VERIFIED SYMBOLIC EXECUTOR, PARTS 34 TO 40. Lemmas that hold of every program. -/
import Derived.Test.YtdkcihleblbkaaaGreatDoorEd
import Derived.ArgAppend
import Derived.Lib.Bytealg
/- A verified symbolic executor, part 34: append: what the model does. The lemmas hold of every program; no project text. -/
namespace Go.Proofs.YtdkcihleblbkaaaGreatDoor.Eng
set_option linter.unusedVariables false
set_option linter.unusedSimpArgs false
set_option linter.unusedSectionVars false
open Go
set_option linter.unusedSectionVars false
set_option linter.unusedVariables false
set_option linter.unusedSimpArgs false

/-- what is appended, in the model's words -/
inductive SrcR (P : Program) (hp : Array Obj) (ts : List TypeId) (x : Value) (el : TypeId) (size n : Nat) (vs : Array Value) : Prop where
  | plain (h : ts = [] ∨ (∃ tx r e, ts = tx :: r ∧ P.underlying tx = some (.slice e)) ∨ ∃ tx r, ts = tx :: r ∧ P.underlying tx = some .string)
      (h1 : ∀ w : World, w.heap = hp → (Builtin.lenOf x).run P w = .ok n w) (h2 : ∀ w : World, w.heap = hp → (Builtin.firstCells size n x).run P w = .ok vs w)
  | zeros (tx : TypeId) (r : List TypeId) (k kx : IntKind) (zv : Value) (ht : ts = tx :: r) (hk : P.underlying tx = some (.int k)) (hx : x = .int kx n) (hn : n ≤ 1000000) (hz : ∀ w : World, (zeroValue el).run P w = .ok zv w) (hs : zv.cells.size = size) (h2 : vs = (Array.range (n * size)).map fun i => zv.cells[i % size]!)

section
variable {P : Program} {w : World} {t el : TypeId} {ts : List TypeId} {ty : TypeId} {i : TypeInfo} {size : Nat} {x : Value} {n : Nat} {vs : Array Value} (ht : (underlying t).run P w = .ok (.slice el) w) (hi : (typeInfo el).run P w = .ok i w) (hsz : i.size = size) (hb : i.bytes ≤ 100000)
include ht hi hsz

theorem run_append_room (hs : SrcR P w.heap ts x el size n vs) (hb : i.bytes ≤ 100000 ∨ ∀ tx r k, ts = tx :: r → P.underlying tx ≠ some (.int k)) (base : Option Addr) (sLen sCap : Nat) (hroom : sLen + n ≤ sCap) {w' : World}
    (hst : match base with | some a => (storeCells (a.add (sLen * size)) vs.toList).run P w = .ok () w' | none => w' = w) :
    (Builtin.append_ (t :: ts).toArray ty #[.slice base sLen sCap, x]).run P w = .ok (.slice base (sLen + n) sCap) w' := by
  cases hs with
  | plain h h1 h2 =>
    have h1 := h1 w rfl
    have h2 := h2 w rfl
    rcases h with rfl | ⟨tx, r, d, rfl, hd⟩ | ⟨tx, r, rfl, hd⟩
    · cases base with
      | none => subst hst; simp [Builtin.append_, ht, sizeOf, hi, hsz, h1, hroom, h2]
      | some a => simp [Builtin.append_, ht, sizeOf, hi, hsz, h1, hroom, h2, hst]
    · cases base with
      | none => subst hst; simp [Builtin.append_, ht, sizeOf, hi, hsz, h1, hroom, h2, run_underlying hd]
      | some a => simp [Builtin.append_, ht, sizeOf, hi, hsz, h1, hroom, h2, hst, run_underlying hd]
    · cases base with
      | none => subst hst; simp [Builtin.append_, ht, sizeOf, hi, hsz, h1, hroom, h2, run_underlying hd]
      | some a => simp [Builtin.append_, ht, sizeOf, hi, hsz, h1, hroom, h2, hst, run_underlying hd]
  | zeros tx r k kx zv hts hk hx hn hz hss h2 =>
    have hz := hz w
    subst hts
    subst hx
    have hb' : i.bytes ≤ 100000 := by
      rcases hb with h | h
      · exact h
      · exact absurd hk (h tx r k rfl)
    have hw : IntKind.i64.wrap (n : Int) = (n : Int) := wrap_in (by simp [loK, sgn, lim]) (by simp [hiK, lim]; omega)
    have hneg : ¬ ((n : Int) < 0) := by omega
    have hbig : ¬ ((281474976710656 : Int) < (n : Int) * (i.bytes : Int)) := by
      have : n * i.bytes ≤ 1000000 * 100000 := Nat.mul_le_mul hn hb'
      have h2 : ((n * i.bytes : Nat) : Int) ≤ 100000000000 := by omega
      rw [Int.natCast_mul] at h2
      omega
    by_cases h0 : n * size = 0
    · have hvs : vs = #[] := by rw [h2, h0]; simp
      subst hvs
      cases base with
      | none => subst hst; simp [Builtin.append_, ht, sizeOf, hi, hsz, run_underlying hk, asInt, asIntOf, hw, hneg, hbig, hroom, h0]
      | some a => simp [Builtin.append_, ht, sizeOf, hi, hsz, run_underlying hk, asInt, asIntOf, hw, hneg, hbig, hroom, h0, hst]
    · have hzc : Builtin.zeroCells zv.cells n = vs := by rw [h2]; simp only [Builtin.zeroCells, hss]
      cases base with
      | none => subst hst; simp [Builtin.append_, ht, sizeOf, hi, hsz, run_underlying hk, asInt, asIntOf, hw, hneg, hbig, hroom, h0, hz]
      | some a => simp [Builtin.append_, ht, sizeOf, hi, hsz, run_underlying hk, asInt, asIntOf, hw, hneg, hbig, hroom, h0, hz, hzc, hst]
end

section
variable {P : Program} {w : World} {t el : TypeId} {ts : List TypeId} {ty : TypeId} {i : TypeInfo} {size : Nat} {x : Value} {n : Nat} {vs : Array Value} (ht : ∀ w : World, (underlying t).run P w = .ok (.slice el) w) (hi : ∀ w : World, (typeInfo el).run P w = .ok i w) (hsz : i.size = size) (hb : i.bytes ≤ 100000)
include ht hi hsz hb

theorem run_append_grow' (hs : SrcR P w.heap ts x el size n vs) (base : Option Addr) (sLen sCap : Nat) (hroom : ¬ sLen + n ≤ sCap) (hle : sLen + n ≤ 1000000) {zv : Value} (hz : ∀ w : World, (zeroValue el).run P w = .ok zv w) {old : Array Value}
    (hold : ∀ w' : World, w'.heap = w.heap → (Builtin.firstCells size sLen (.slice base sLen sCap)).run P w' = .ok old w') :
    ∃ c, sLen + n ≤ c ∧ c < 9223372036854775808 ∧ (Builtin.append_ (t :: ts).toArray ty #[.slice base sLen sCap, x]).run P w =
      .ok (.slice (some ⟨w.heap.size, 0, none⟩) (sLen + n) c) { w with drawn := w.drawn + 1, heap := w.heap.push (.cells (old ++ vs ++ Builtin.zeroCells zv.cells (c - (sLen + n))) el) } := by
  let w1 : World := w.drew
  let c := (Question.appendCap (sLen + n) sCap el).cut (w.tape w.drawn (.appendCap (sLen + n) sCap el))
  have hc : sLen + n ≤ c ∧ c < 9223372036854775808 := by
    simp only [c, Question.cut]
    have : (w.tape w.drawn (.appendCap (sLen + n) sCap el)) % (2 ^ 63 - (sLen + n)) < 2 ^ 63 - (sLen + n) := Nat.mod_lt _ (by omega)
    omega
  have hqf : (Question.appendCap (sLen + n) sCap el).forced = false := rfl
  have hask : ∀ m, (askRoom m).run P w.drew = .ok () w.drew := fun m => by
    unfold askRoom
    split <;> simp [mark, Sem.run]
  have hbytes : (sLen + n) * i.bytes ≤ 140737488355328 := by
    have : (sLen + n) * i.bytes ≤ 1000000 * 100000 := Nat.mul_le_mul hle hb
    omega
  have hfit := growslice_fits (need := sLen + n) (old := sCap) (bytes := i.bytes) (by omega) hbytes
  have h48 : ¬ (281474976710656 < Builtin.nextslicecap (sLen + n) sCap * i.bytes) := by omega
  have h63 : ¬ (9223372036854775807 < ((sLen : Int) + (n : Int))) := by omega
  have hold1 : (Builtin.firstCells size sLen (.slice base sLen sCap)).run P w.drew = .ok old w.drew := hold w1 rfl
  have hnr : ∀ cs : Array Value, (newRow el cs).run P w.drew = .ok ⟨w.heap.size, 0, none⟩ { w with drawn := w.drawn + 1, heap := w.heap.push (.cells cs el) } := fun cs => rfl
  have hmax : IntKind.i64.max = 9223372036854775807 := rfl
  refine ⟨c, hc.1, hc.2, ?_⟩
  have ht0 := ht w
  have hi0 := hi w
  have hi1 : (typeInfo el).run P w.drew = .ok i w.drew := hi w1
  have hz1 : (zeroValue el).run P w.drew = .ok zv w.drew := hz w1
  cases hs with
  | plain h h1 h2 =>
    have g1 := h1 w rfl
    have g2 : (Builtin.firstCells size n x).run P w.drew = .ok vs w.drew := h2 w1 rfl
    rcases h with rfl | ⟨tx, r, d, rfl, hd⟩ | ⟨tx, r, rfl, hd⟩
    · simp [Builtin.append_, ht0, sizeOf, hi0, hsz, g1, hroom, h48, h63, hmax, hqf, hask, hold1, g2, hi1, hz1, hnr]
      exact ⟨rfl, rfl⟩
    · simp [Builtin.append_, ht0, sizeOf, hi0, hsz, g1, hroom, h48, h63, hmax, hqf, hask, hold1, g2, hi1, hz1, hnr, run_underlying hd]
      exact ⟨rfl, rfl⟩
    · simp [Builtin.append_, ht0, sizeOf, hi0, hsz, g1, hroom, h48, h63, hmax, hqf, hask, hold1, g2, hi1, hz1, hnr, run_underlying hd]
      exact ⟨rfl, rfl⟩
  | zeros tx r k kx zv' hts hk hx hn hz' hss h2 =>
    subst hts
    subst hx
    have hw : IntKind.i64.wrap (n : Int) = (n : Int) := wrap_in (by simp [loK, sgn, lim]) (by simp [hiK, lim]; omega)
    have hneg : ¬ ((n : Int) < 0) := by omega
    have hbig : ¬ ((281474976710656 : Int) < (n : Int) * (i.bytes : Int)) := by
      have : n * i.bytes ≤ 1000000 * 100000 := Nat.mul_le_mul hn hb
      have h2 : ((n * i.bytes : Nat) : Int) ≤ 100000000000 := by omega
      rw [Int.natCast_mul] at h2
      omega
    have hzz : zv' = zv := by
      have h1 := hz' w.drew
      rw [hz1] at h1
      cases h1
      rfl
    subst hzz
    by_cases h0 : n * size = 0
    · have hvs : vs = #[] := by rw [h2, h0]; simp
      subst hvs
      simp [Builtin.append_, ht0, sizeOf, hi0, hsz, run_underlying hk, asInt, asIntOf, hw, hneg, hbig, hroom, h0, h48, h63, hmax, hqf, hask, hold1, hi1, hz1, hnr]
      exact ⟨rfl, rfl⟩
    · have hzc : Builtin.zeroCells zv'.cells n = vs := by rw [h2]; simp only [Builtin.zeroCells, hss]
      simp [Builtin.append_, ht0, sizeOf, hi0, hsz, run_underlying hk, asInt, asIntOf, hw, hneg, hbig, hroom, h0, h48, h63, hmax, hqf, hask, hold1, hi1, hz1, hnr, hzc]
      exact ⟨rfl, rfl⟩
end

end Go.Proofs.YtdkcihleblbkaaaGreatDoor.Eng

/- A verified symbolic executor, part 35: append. The lemmas hold of every program; no project text. -/
namespace Go.Proofs.YtdkcihleblbkaaaGreatDoor.Eng
set_option linter.unusedVariables false
set_option linter.unusedSimpArgs false
set_option linter.unusedSectionVars false
open Go
set_option linter.unusedSectionVars false
set_option linter.unusedVariables false
set_option linter.unusedSimpArgs false

theorem takeN_eq : ∀ {n : Nat} {l r : List AV}, takeN n l = some r → r = l.take n
  | 0, l, r, h => by simp only [takeN, Option.some.injEq] at h; subst h; simp
  | n + 1, [], r, h => by simp [takeN] at h
  | n + 1, a :: l, r, h => by
    simp only [takeN] at h
    split at h
    · rename_i r' hr
      simp only [Option.some.injEq] at h; subst h
      simp [takeN_eq hr]
    · cases h

theorem cut_get {cs r : List AV} {off n : Nat} (h : cut cs off n = some r) : ∀ i, i < n → r[i]? = cs[off + i]? := by
  intro i hi
  rw [takeN_eq h, List.getElem?_take, if_pos hi, List.getElem?_drop]

/-- an id is dropped -/
theorem kill_ok {q : Nat} {μ : Mu} {st : St} {w : World} (hr : HRep q μ st.h w) (id : Nat) : Good μ st w μ (st.kill id) w ∧ HRep q μ (st.kill id).h w := by
  have back : ∀ j b, (st.kill id).h.at_ j = some b → st.h.at_ j = some b := fun j b h => by
    simp only [St.kill, T.at_put] at h
    by_cases e : j = id
    · rw [if_pos e] at h; cases h
    · rw [if_neg e] at h; exact h
  have back' : ∀ j, (st.kill id).h.at_ j ≠ none → st.h.at_ j ≠ none := fun j h => by
    cases hb : (st.kill id).h.at_ j with
    | none => exact absurd hb h
    | some b => rw [back j b hb]; simp
  refine ⟨⟨Ext.refl _, Nat.le_refl _, rfl, rfl, Nat.min_le_left _ _, rfl, rfl, rfl, Nat.le_refl _, fun _ _ _ => rfl, (fun _ _ h h' => by simp [h'] at h), fun j _ h => back' j h, fun j _ h => ?_, fun _ _ => rfl⟩,
    ⟨fun j b l hb hl => hr.obj j b l (back j b hb) hl, fun j j' l l' h1 h2 => hr.inj j j' l l' (back' j h1) (back' j' h2)⟩⟩
  simp only [St.kill, T.at_put] at h ⊢
  rw [if_neg (by omega)]

/-- a row is written in place and is known by another id from there on -/
theorem moveIn_ok {q : Nat} {μ : Mu} {st : St} {w w' : World} {o : Obj} {b' : ABlk} {id : Nat} {l l' : Loc} (hr : HRep q μ st.h w) (hf : ∀ id, st.nx ≤ id → μ id = none)
    (hid : st.h.at_ id ≠ none) (hw : st.canW id = true) (hl : μ id = some l) (hl' : l'.blk = l.blk) (hb : Blk q (μ.add st.nx l') b' l' o)
    (e1 : w'.os = w.os) (e2 : w'.tape = w.tape) (e3 : w'.output = w.output) (hsz : w'.heap.size = w.heap.size) (hat : w'.heap[l.blk]? = some o) (hoth : ∀ k, k ≠ l.blk → w'.heap[k]? = w.heap[k]?) :
    Good μ st w (μ.add st.nx l') ((st.kill id).new b') w' ∧ HRep q (μ.add st.nx l') ((st.kill id).new b').h w' ∧ ∀ i, ((st.kill id).new b').nx ≤ i → μ.add st.nx l' i = none := by
  have hext : Ext μ (μ.add st.nx l') := Mu.add_ext (hf _ (Nat.le_refl _))
  have hidlt : id < st.nx := by
    by_cases e : id < st.nx
    · exact e
    · rw [hf id (by omega)] at hl; cases hl
  have hnx : ((st.kill id).new b').nx = st.nx + 1 := rfl
  have hath : ∀ j, ((st.kill id).new b').h.at_ j = if j = st.nx then some b' else if j = id then none else st.h.at_ j := fun j => by
    simp only [St.new, St.kill, T.at_put]
  have hold : ∀ j l2, μ.add st.nx l' j = some l2 → j ≠ st.nx → μ j = some l2 := fun j l2 h e => by
    unfold Mu.add at h; rwa [if_neg e] at h
  refine ⟨⟨hext, by rw [hnx]; omega, rfl, rfl, Nat.min_le_left _ _, e1, e2, e3, by omega, ?_, ?_, ?_, ?_, fun j hj => by unfold Mu.add; rw [if_neg (by omega)]⟩, ⟨?_, ?_⟩, fun j hj => by rw [hnx] at hj; exact Mu.add_fresh hf j hj⟩
  · intro k hk hn
    exact hoth k fun e => hn ⟨id, l, hid, hw, hl, e.symm⟩
  · intro j l2 h1 h2
    by_cases e : j = st.nx
    · subst e
      rw [Mu.add_same] at h1
      obtain rfl := Option.some.inj h1
      exact .inr ⟨id, l, hid, hw, hl, hl'.symm⟩
    · rw [hold j l2 h1 e] at h2; cases h2
  · intro j hj h
    rw [hath, if_neg (by omega)] at h
    by_cases e : j = id
    · rw [if_pos e] at h; exact absurd rfl h
    · rwa [if_neg e] at h
  · intro j hj h
    have h' : j < min st.mw id := h
    rw [hath, if_neg (by omega), if_neg (by omega)]
  · intro j b l2 hb2 hl2
    rw [hath] at hb2
    by_cases e : j = st.nx
    · rw [if_pos e] at hb2
      obtain rfl := Option.some.inj hb2
      subst e
      rw [Mu.add_same] at hl2
      obtain rfl := Option.some.inj hl2
      exact ⟨o, by rw [hl']; exact hat, hb⟩
    · rw [if_neg e] at hb2
      by_cases e2 : j = id
      · rw [if_pos e2] at hb2; cases hb2
      · rw [if_neg e2] at hb2
        have hl3 := hold j l2 hl2 e
        obtain ⟨o', o1, o2⟩ := hr.obj j b l2 hb2 hl3
        refine ⟨o', ?_, o2.mono hext⟩
        rw [hoth _ fun e' => e2 (hr.inj j id l2 l (by rw [hb2]; simp) hid hl3 hl e')]
        exact o1
  · intro j j' l1 l2 h1 h2 m1 m2 e
    rw [hath] at h1 h2
    by_cases ej : j = st.nx
    · by_cases ej' : j' = st.nx
      · omega
      · rw [if_neg ej'] at h2
        by_cases e2 : j' = id
        · rw [if_pos e2] at h2; exact absurd rfl h2
        · rw [if_neg e2] at h2
          subst ej
          rw [Mu.add_same] at m1
          obtain rfl := Option.some.inj m1
          exact absurd (hr.inj j' id l2 l h2 hid (hold j' l2 m2 ej') hl (by rw [← e, hl'])) e2
    · rw [if_neg ej] at h1
      by_cases e1 : j = id
      · rw [if_pos e1] at h1; exact absurd rfl h1
      · rw [if_neg e1] at h1
        by_cases ej' : j' = st.nx
        · subst ej'
          rw [Mu.add_same] at m2
          obtain rfl := Option.some.inj m2
          exact absurd (hr.inj j id l1 l h1 hid (hold j l1 m1 ej) hl (by rw [e, hl'])) e1
        · rw [if_neg ej'] at h2
          by_cases e2 : j' = id
          · rw [if_pos e2] at h2; exact absurd rfl h2
          · rw [if_neg e2] at h2
            exact hr.inj j j' l1 l2 h1 h2 (hold j l1 m1 ej) (hold j' l2 m2 ej') e

section ops
variable {P : Program} {D : Ty} (hD : DOk P D) {q : Nat} {μ : Mu} {st : St}
include hD

theorem zeroOk_out {el : TypeId} {ti : TI} (hti : D el = some ti) (h : zeroOk ti = true) : ∃ zv, (∀ w : World, (zeroValue el).run P w = .ok zv w) ∧ zv.cells.size = ti.size := by
  unfold zeroOk at h
  split at h
  · rename_i z hz
    split at h
    · rename_i zc hc
      obtain ⟨i, d, h1, h2, h3, h4, h5, h6⟩ := mkTI_out (hD.row el ti hti)
      obtain ⟨zv, z1, z2⟩ := h6 z hz
      refine ⟨zv, fun w => ?_, ?_⟩
      · obtain ⟨v, v1, v2⟩ := run_zero hD w hti hz
        have : (zeroValue el).run P w = .ok zv w := by
          unfold zeroValue at v1 ⊢
          simp only [Sem.run_bind, run_typeInfo w h1, Result.andThen_ok, z1] at v1 ⊢
          rfl
        exact this
      · have := (ofVal_cells (q := 0) (μ := fun _ => none) z2 hc).length
        have h' := beq_nat h
        simp at this
        omega
    · cases h
  · cases h

omit hD in
theorem srcCells_all {w : World} (hr : HRep q μ st.h w) {es n : Nat} {a : AV} {v : Value} {l : List AV} (h : srcCells st es n a = some l) (r : Rep q μ a v) :
    ∃ vs : Array Value, (∀ w' : World, w'.heap = w.heap → (Builtin.firstCells es n v).run P w' = .ok vs w') ∧ RepL q μ l vs.toList ∧ vs.size = n * es := by
  unfold srcCells at h
  split at h
  · rename_i id off len cap es'
    cases hb : (Nat.beq es es' && Nat.ble n len) with
    | false => simp [hb] at h
    | true =>
      simp only [hb, cond_true] at h
      split at h
      · rename_i et cells opn b0 fz sm hat
        simp only [Rep] at r
        obtain ⟨lc, c, hl, rfl, _⟩ := r
        obtain ⟨l', cc, fr, k0, k1, k2, k3, k4, k5, k6, _⟩ := row_out hr hat hl
        rw [hl] at k0
        obtain rfl := Option.some.inj k0
        obtain ⟨vs, v1, v2, v3, v4⟩ := cells_read (P := P) k1 k6 h
        refine ⟨vs.toArray, fun w' hw => ?_, by simpa using v2, by simpa using v3⟩
        have := run_loadCells_list (P := P) w' ⟨lc.blk, lc.base + off, none⟩ vs (fun j v hv => by rw [addr_add, cell_of (by rw [hw]; exact k1)]; exact v4 j v hv)
        rw [v3] at this
        exact this
      · cases h
  · cases hb : Nat.beq n 0 with
    | false => simp [hb] at h
    | true =>
      simp only [hb, cond_true, Option.some.injEq] at h; subst h
      have := beq_nat hb
      subst this
      simp only [Rep] at r; subst r
      exact ⟨#[], fun _ _ => rfl, by simp [RepL], by simp⟩
  · rename_i s
    cases hb : Nat.beq es 1 with
    | false => simp [hb] at h
    | true =>
      simp only [hb, cond_true] at h
      have := beq_nat hb
      subst this
      split at h
      · rename_i l' hl'
        simp only [Option.some.injEq] at h; subst h
        simp only [Rep] at r
        obtain ⟨b, rfl, hbb⟩ := r
        have hrep := bytes_rep (μ := μ) hbb
        have ht := takeN_rep (vs := b.data.toList.map fun c => Value.int .u8 c.toNat) hl' fun i a ha => hrep.get i a ha
        have he : ((b.extract 0 n).data.map fun c => Value.int .u8 c.toNat).toList = (b.data.toList.map fun c => Value.int .u8 c.toNat).take n := by
          simp [ByteArray.data_extract]
        refine ⟨_, fun _ _ => rfl, ?_, ?_⟩
        · rw [he]; exact ht.1
        · rw [← Array.length_toList, he, List.length_take]
          have := ht.2
          omega
      · cases h
  · cases h

theorem appended_ok {w : World} (hr : HRep q μ st.h w) {el : TypeId} {ti : TI} (hti : D el = some ti) {ts : List TypeId} {x : AV} {vx : Value} {new : List AV} {n : Nat} (h : appendedA D st ti ts.head? x = some (new, n)) (hx : Rep q μ x vx) :
    ∃ vs, SrcR P w.heap ts vx el ti.size n vs ∧ RepL q μ new vs.toList ∧ vs.size = n * ti.size ∧ (ti.bytes ≤ 100000 ∨ ∀ tx r k, ts = tx :: r → P.underlying tx ≠ some (.int k)) := by
  have hplain : appendedP st ti x = some (new, n) → (ts = [] ∨ (∃ tx r e, ts = tx :: r ∧ P.underlying tx = some (.slice e)) ∨ ∃ tx r, ts = tx :: r ∧ P.underlying tx = some .string) →
      ∃ vs, SrcR P w.heap ts vx el ti.size n vs ∧ RepL q μ new vs.toList ∧ vs.size = n * ti.size ∧ (ti.bytes ≤ 100000 ∨ ∀ tx r k, ts = tx :: r → P.underlying tx ≠ some (.int k)) := by
    intro h hk
    unfold appendedP at h
    split at h
    · rename_i n' hn
      split at h
      · rename_i l hl
        simp only [Option.some.injEq, Prod.mk.injEq] at h
        obtain ⟨rfl, rfl⟩ := h
        obtain ⟨vs, v1, v2, v3⟩ := srcCells_all (P := P) hr hl hx
        refine ⟨vs, .plain hk (fun w' _ => lenA_ok hn hx w') v1, v2, v3, .inr ?_⟩
        rintro tx r k rfl hint
        rcases hk with hk | ⟨tx', r', e, hk, hd⟩ | ⟨tx', r', hk, hd⟩
        · cases hk
        · cases hk; rw [hint] at hd; cases hd
        · cases hk; rw [hint] at hd; cases hd
      · cases h
    · cases h
  unfold appendedA at h
  cases ts with
  | nil => exact hplain h (.inl rfl)
  | cons tx r =>
    simp only [List.head?_cons] at h
    split at h
    · rename_i k sz by_ z eq htx
      obtain ⟨d, d1, d2, d3⟩ := run_und hD w htx
      obtain rfl := cls_int d2
      unfold appendedZ at h
      split at h
      · rename_i kx m z' hz
        split at h
        · rename_i zc hc
          cases hb : (Nat.ble m 1000000 && Nat.ble ti.bytes 100000 && Nat.beq zc.length ti.size) with
          | false => simp [hb] at h
          | true =>
            simp only [hb, cond_true, Option.some.injEq, Prod.mk.injEq] at h
            obtain ⟨rfl, rfl⟩ := h
            simp only [Bool.and_eq_true, Nat.ble_eq] at hb
            obtain ⟨⟨b1, b2⟩, b3⟩ := hb
            have hzok : zeroOk ti = true := by unfold zeroOk; rw [hz]; simp only [hc]; exact b3
            obtain ⟨zv, z1, z2⟩ := zeroOk_out hD hti hzok
            obtain ⟨zv', y1, y2⟩ := run_zero hD w hti hz
            have : zv' = zv := by have := z1 w; rw [y1] at this; cases this; rfl
            subst this
            have hrep := repeat_rep (ofVal_cells (q := q) (μ := μ) y2 hc) m
            rw [z2] at hrep
            simp only [Rep] at hx
            refine ⟨_, .zeros tx r k kx zv' rfl d1 hx b1 z1 z2 rfl, hrep, by simp, .inl b2⟩
        · cases h
      · cases h
    · rename_i e sz by_ z eq htx
      obtain ⟨d, d1, d2, d3⟩ := run_und hD w htx
      obtain rfl := cls_sl d2
      exact hplain h (.inr (.inl ⟨tx, r, _, rfl, d1⟩))
    · rename_i sz by_ z eq htx
      obtain ⟨d, d1, d2, d3⟩ := run_und hD w htx
      obtain rfl := cls_str d2
      exact hplain h (.inr (.inr ⟨tx, r, rfl, d1⟩))
    · cases h

/-- a new row, its room drawn -/
theorem grown_ok {w : World} (hr : HRep q μ st.h w) (hf : ∀ id, st.nx ≤ id → μ id = none) {el : TypeId} {size need c : Nat} {old vs zc : Array Value} {oldA new : List AV} (h1 : RepL q μ oldA old.toList) (h2 : RepL q μ new vs.toList) (hos : old.size + vs.size = need * size) (hzs : zc.size = size) (hc : need ≤ c) (hc2 : c < 9223372036854775808) {sm b0 : Bool} :
    Post q μ st w [(.sl st.nx 0 need none size, st.open_ el (oldA ++ new) b0 sm)] (.slice (some ⟨w.heap.size, 0, none⟩) need c) { w with drawn := w.drawn + 1, heap := w.heap.push (.cells (old ++ vs ++ Builtin.zeroCells zc (c - need)) el) } := by
  let w1 : World := { w with drawn := w.drawn + 1 }
  let cells := old ++ vs ++ Builtin.zeroCells zc (c - need)
  have hcs : cells.size = c * size := by
    simp only [cells, Array.size_append, Builtin.zeroCells, Array.size_map, Array.size_range, hzs]
    rw [hos, ← Nat.add_mul]; congr 1; omega
  have hr1 : HRep q μ st.h w1 := HRep.of_heap (w := w) (w' := w1) rfl hr
  have hrl := RepL.append h1 h2
  have hlen := hrl.length
  simp only [List.length_append, Array.length_toList] at hlen
  have hrow : RowR q μ cells 0 (oldA ++ new) := by
    intro i a ha
    obtain ⟨v, e1, e2⟩ := hrl.get i a ha
    refine ⟨v, ?_, e2⟩
    have hi := (List.getElem?_eq_some_iff.1 e1).1
    simp only [List.length_append, Array.length_toList] at hi
    rw [Nat.zero_add]
    simp only [cells]
    rw [Array.getElem?_append_left (by simpa using hi), ← Array.getElem?_toList, Array.toList_append]
    exact e1
  have hext : Ext μ (μ.add st.nx ⟨w1.heap.size, 0, cells.size⟩) := Mu.add_ext (hf _ (Nat.le_refl _))
  have hmul : need * size ≤ c * size := Nat.mul_le_mul_right _ hc
  have hblk : Blk q (μ.add st.nx ⟨w1.heap.size, 0, cells.size⟩) (.row el (oldA ++ new) true b0 0 sm) ⟨w1.heap.size, 0, cells.size⟩ (.cells cells el) :=
    ⟨cells, (0, 0), rfl, by simp, by simp; omega, (fun h => nomatch h), fun _ => rfl, hrow.mono hext, fun i _ _ => by simp, fun _ => by simp⟩
  obtain ⟨g, h, f⟩ := new_ok (o := .cells cells el) hr1 hf rfl hblk
  have g0 : Good μ st w μ st w1 := Good.drew
  refine post_new (st' := st.open_ el (oldA ++ new) b0 sm) ?_ (g0.trans hf g) h f (St.new_kept _ _)
  simp only [Rep]
  exact ⟨_, c, Mu.add_same _ _ _, rfl, by simp [hcs], (fun _ h => nomatch h), fun _ => by simp [hcs], hc, hc2⟩

end ops
end Go.Proofs.YtdkcihleblbkaaaGreatDoor.Eng

/- A verified symbolic executor, part 36: append, whole; cap. The lemmas hold of every program; no project text. -/
namespace Go.Proofs.YtdkcihleblbkaaaGreatDoor.Eng
set_option linter.unusedVariables false
set_option linter.unusedSimpArgs false
set_option linter.unusedSectionVars false
open Go
set_option linter.unusedSectionVars false
set_option linter.unusedVariables false
set_option linter.unusedSimpArgs false

section ops
variable {P : Program} {D : Ty} (hD : DOk P D) {q : Nat} {μ : Mu} {st : St} {w : World} (hr : HRep q μ st.h w) (hf : ∀ id, st.nx ≤ id → μ id = none)
include hD hr hf

omit hD in
theorem roomA_ok {id off len c : Nat} {cap : Option Nat} {es : Nat} {v : Value} (h : roomA st id off cap es = some c) (r : Rep q μ (.sl id off len cap es) v) : Rep q μ (.sl id off len (some c) es) v := by
  simp only [Rep] at r ⊢
  obtain ⟨l, c0, hl, hv, h1, h2, h3, h4, h5⟩ := r
  unfold roomA at h
  cases cap with
  | some c' =>
    simp only [Option.some.injEq] at h; subst h
    have := h2 c' rfl
    subst this
    exact ⟨l, c0, hl, hv, h1, fun c' hc' => Option.some.inj hc', (fun h => nomatch h), h4, h5⟩
  | none =>
    simp only at h
    split at h
    · rename_i et cells b0 fz sm hat
      cases hb : (Nat.blt 0 es && Nat.ble off cells.length && Nat.beq (Nat.mod (cells.length - off) es) 0) with
      | false => simp [hb] at h
      | true =>
        simp only [hb, cond_true, Option.some.injEq] at h
        simp only [Bool.and_eq_true, Nat.ble_eq] at hb
        obtain ⟨⟨b1, b2⟩, b3⟩ := hb
        have hpos := blt_lt b1
        obtain ⟨l', cc, fr, k0, k1, k2, k3, k4, _⟩ := row_out hr hat hl
        rw [hl] at k0
        obtain rfl := Option.some.inj k0
        have htot := k4 rfl
        have h3 := h3 rfl
        have hc : c0 = c := by
          subst h
          have : c0 * es = cells.length - off := by omega
          show c0 = (cells.length - off) / es
          rw [← this, Nat.mul_div_cancel _ hpos]
        subst hc
        exact ⟨l, c0, hl, hv, h1, fun c' hc' => Option.some.inj hc', (fun h => nomatch h), h4, h5⟩
    · cases h

theorem growA_ok {t el : TypeId} {ti : TI} {ts : List TypeId} {ty : TypeId} {id off len n c : Nat} {es : Nat} {new : List AV} {r : AV} {st' : St} {va vx : Value} {vs : Array Value} (ht : ∀ w : World, (underlying t).run P w = .ok (.slice el) w) (hti : D el = some ti) (hes : ti.size = es)
    (h : growA st ti el id off len n new = some (r, st')) (ha : Rep q μ (.sl id off len (some c) es) va) (hs : SrcR P w.heap ts vx el ti.size n vs) (hnew : RepL q μ new vs.toList) (hvs : vs.size = n * ti.size) (hc : ¬ len + n ≤ c) :
    ∃ v w', (Builtin.append_ (t :: ts).toArray ty #[va, vx]).run P w = .ok v w' ∧ Post q μ st w [(r, st')] v w' := by
  subst hes
  unfold growA at h
  cases hb : (Nat.ble (len + n) 1000000 && Nat.ble ti.bytes 100000 && zeroOk ti) with
  | false => simp [hb] at h
  | true =>
    simp only [hb, cond_true] at h
    simp only [Bool.and_eq_true, Nat.ble_eq] at hb
    obtain ⟨⟨b1, b2⟩, b3⟩ := hb
    split at h
    · rename_i et cells opn b0 fz sm hat
      split at h
      · rename_i oldA hcut
        simp only [Option.some.injEq, Prod.mk.injEq] at h
        obtain ⟨rfl, rfl⟩ := h
        simp only [Rep] at ha
        obtain ⟨l, c0, hl, rfl, h1, h2, _⟩ := ha
        have := h2 c rfl
        subst this
        have hsrc : srcCells st ti.size len (.sl id off len none ti.size) = some oldA := by
          simp only [srcCells, Nat.beq_refl, Bool.true_and]
          rw [show Nat.ble len len = true from by simp]
          simp only [cond_true, hat]
          exact hcut
        -- the old cells
        obtain ⟨l', cc, fr, k0, k1, k2, k3, k4, k5, k6, _⟩ := row_out hr hat hl
        rw [hl] at k0
        obtain rfl := Option.some.inj k0
        obtain ⟨us, v1, v2, v3, v4⟩ := cells_read (P := P) k1 k6 hcut
        have hold : ∀ w' : World, w'.heap = w.heap → (Builtin.firstCells ti.size len (.slice (some ⟨l.blk, l.base + off, none⟩) len c0)).run P w' = .ok us.toArray w' := fun w' hw => by
          have := run_loadCells_list (P := P) w' ⟨l.blk, l.base + off, none⟩ us (fun j v hv => by rw [addr_add, cell_of (by rw [hw]; exact k1)]; exact v4 j v hv)
          rw [v3] at this
          exact this
        obtain ⟨zv, z1, z2⟩ := zeroOk_out hD hti b3
        obtain ⟨i, d, i1, i2, i3, i4, i5, _⟩ := mkTI_out (hD.row el ti hti)
        obtain ⟨c', c1, c2, hrun⟩ := run_append_grow' (P := P) (w := w) (ty := ty) ht (fun w => run_typeInfo w i1) i4 (by rw [i5]; exact b2) hs (some ⟨l.blk, l.base + off, none⟩) len c0 hc b1 z1 hold
        exact ⟨_, _, hrun, grown_ok hD hr hf (by simpa using v2) hnew (by simp [v3, hvs, Nat.add_mul]) z2 c1 c2⟩
      · cases h
    · cases h

theorem append_ok {t : TypeId} {ts : List TypeId} {ty : TypeId} {a x r : AV} {st' : St} {va vx : Value} (h : appendA D st t ts.head? a x = some (r, st')) (ha : Rep q μ a va) (hx : Rep q μ x vx) :
    ∃ v w', (Builtin.append_ (t :: ts).toArray ty #[va, vx]).run P w = .ok v w' ∧ Post q μ st w [(r, st')] v w' := by
  unfold appendA at h
  split at h
  · rename_i el sz by_ z eq htd
    obtain ⟨d, d1, d2, _⟩ := run_und hD w htd
    obtain rfl := cls_sl d2
    have ht : ∀ w : World, (underlying t).run P w = .ok (.slice el) w := fun w => run_underlying d1 w
    split at h
    · rename_i ti hti
      obtain ⟨i, dd, i1, i2, i3, i4, i5, _⟩ := mkTI_out (hD.row el ti hti)
      have hi : ∀ w : World, (typeInfo el).run P w = .ok i w := fun w => run_typeInfo w i1
      split at h
      · cases h
      · rename_i new n happ
        obtain ⟨vs, s1, s2, s3, s4⟩ := appended_ok hD hr hti happ hx
        rw [← i5] at s4
        have hlen := s2.length
        simp only [Array.length_toList] at hlen
        split at h
        · -- a nil slice
          simp only [Rep] at ha; subst ha
          cases hb : Nat.beq n 0 with
          | true =>
            simp only [hb, cond_true, Option.some.injEq, Prod.mk.injEq] at h
            obtain ⟨rfl, rfl⟩ := h
            have h0 := beq_nat hb
            subst h0
            refine ⟨_, w, run_append_room (P := P) (w := w) (ht w) (hi w) i4 s1 s4 none 0 0 (by omega) rfl, post_pure hr hf (by simp [Rep])⟩
          | false =>
            have hn0 : n ≠ 0 := fun e => by subst e; simp at hb
            simp only [hb, cond_false] at h
            cases hc : (Nat.ble n 1000000 && Nat.ble ti.bytes 100000 && zeroOk ti) with
            | false => simp [hc] at h
            | true =>
              simp only [hc, cond_true, Option.some.injEq, Prod.mk.injEq] at h
              obtain ⟨rfl, rfl⟩ := h
              simp only [Bool.and_eq_true, Nat.ble_eq] at hc
              obtain ⟨⟨b1, b2⟩, b3⟩ := hc
              obtain ⟨zv, z1, z2⟩ := zeroOk_out hD hti b3
              obtain ⟨c', c1, c2, hrun⟩ := run_append_grow' (P := P) (w := w) (ty := ty) ht hi i4 (by rw [i5]; exact b2) s1 none 0 0 (by omega) (by omega) z1 (old := #[]) (fun w' _ => rfl)
              rw [Nat.zero_add] at hrun c1
              have := grown_ok (need := n) (sm := false) (b0 := true) hD hr hf (oldA := []) (old := #[]) (by simp [RepL]) s2 (by simp [s3]) z2 c1 c2 (el := el)
              rw [List.nil_append] at this
              exact ⟨_, _, hrun, this⟩
        · rename_i id off len cap es'
          cases hes : Nat.beq ti.size es' with
          | false => simp [hes] at h
          | true =>
            simp only [hes, cond_true] at h
            have hes := beq_nat hes
            subst hes
            split at h
            · -- the room is known
              rename_i c hroom
              have ha' := roomA_ok hr hf hroom ha
              have ha2 := ha'
              simp only [Rep] at ha2
              obtain ⟨l, c0, hl, hv, h1, h2, _, h4, h5⟩ := ha2
              have := h2 c rfl
              subst this
              cases hle : Nat.ble (len + n) c0 with
              | true =>
                simp only [hle, cond_true] at h
                rw [Nat.ble_eq] at hle
                cases hb : Nat.beq n 0 with
                | true =>
                  simp only [hb, cond_true, Option.some.injEq, Prod.mk.injEq] at h
                  obtain ⟨rfl, rfl⟩ := h
                  have h0 := beq_nat hb
                  subst h0
                  have hvs : vs.toList = [] := by
                    have : vs.size = 0 := by rw [s3]; simp
                    simpa using this
                  refine ⟨va, w, ?_, post_pure hr hf ha'⟩
                  rw [hv]
                  exact run_append_room (P := P) (w := w) (ht w) (hi w) i4 s1 s4 _ len c0 hle (w' := w) (by rw [hvs]; rfl)
                | false =>
                  simp only [hb, cond_false] at h
                  cases hcw : (st.canW id && allOc new) with
                  | false => simp [hcw] at h
                  | true =>
                    simp only [hcw, cond_true] at h
                    simp only [Bool.and_eq_true] at hcw
                    split at h
                    · rename_i et cells opn b0 fz sm hat
                      cases hz : Nat.ble fz (off + len * ti.size) with
                      | false => simp [hz] at h
                      | true =>
                        simp only [hz, cond_true] at h
                        rw [Nat.ble_eq] at hz
                        split at h
                        · rename_i cells' hov
                          simp only [Option.some.injEq, Prod.mk.injEq] at h
                          obtain ⟨rfl, rfl⟩ := h
                          obtain ⟨w', e1, g, hh⟩ := write_ok (P := P) hr hat hcw.1 hl hov hz hcw.2 s2
                          rw [hv]
                          refine ⟨_, w', run_append_room (P := P) (w := w) (ht w) (hi w) i4 s1 s4 _ len c0 hle (w' := w') ?_, _, _, List.mem_singleton.2 rfl, μ, ?_, g, hh, hf, St.turn_kept _ _ _⟩
                          · simp only [addr_add, Nat.add_assoc]; exact e1
                          · simp only [Rep]
                            exact ⟨l, c0, hl, rfl, h1, fun c' hc' => Option.some.inj hc', (fun h => nomatch h), hle, h5⟩
                        · cases h
                    · cases h
              | false =>
                simp only [hle, cond_false] at h
                have hnle : ¬ (len + n ≤ c0) := by rw [← Nat.ble_eq, hle]; simp
                cases hbc : Nat.ble c0 1000000 with
                | false => simp [hbc] at h
                | true =>
                  simp only [hbc, cond_true] at h
                  exact growA_ok hD hr hf ht hti rfl h ha' s1 s2 s3 hnle
            · -- the room is not known
              rename_i hroom
              have hcap : cap = none := by
                cases cap with
                | none => rfl
                | some c => simp [roomA] at hroom
              subst hcap
              cases hb : (st.canW id && allOc new && Nat.ble (len + n) 1000000 && Nat.ble ti.bytes 100000 && zeroOk ti) with
              | false => simp [hb] at h
              | true =>
                simp only [hb, cond_true] at h
                simp only [Bool.and_eq_true, Nat.ble_eq] at hb
                obtain ⟨⟨⟨⟨b1, b2⟩, b3⟩, b4⟩, b5⟩ := hb
                split at h
                · rename_i et cells b0 fz sm hat
                  cases hz : (Nat.ble fz (off + len * ti.size) && Nat.beq et el) with
                  | false => simp [hz] at h
                  | true =>
                    simp only [hz, cond_true] at h
                    simp only [Bool.and_eq_true, Nat.ble_eq] at hz
                    obtain ⟨hz, het⟩ := hz
                    have het := beq_nat het
                    subst het
                    split at h
                    · rename_i oldA hcut
                      simp only [Option.some.injEq, Prod.mk.injEq] at h
                      obtain ⟨rfl, rfl⟩ := h
                      have ha2 := ha
                      simp only [Rep] at ha2
                      obtain ⟨l, c0, hl, hv, h1, _, h3, h4, h5⟩ := ha2
                      have h3 := h3 trivial
                      obtain ⟨l', cc, fr, k0, k1, k2, k3, k4, k5, k6, k7, k8⟩ := row_out hr hat hl
                      rw [hl] at k0
                      obtain rfl := Option.some.inj k0
                      obtain ⟨us, v1, v2, v3, v4⟩ := cells_read (P := P) k1 k6 hcut
                      have hrl := RepL.append v2 s2
                      have hol : oldA.length = len * ti.size := (cut_le hcut).1
                      by_cases hle : len + n ≤ c0
                      · -- in place
                        have hmul : len * ti.size + n * ti.size ≤ c0 * ti.size := by rw [← Nat.add_mul]; exact Nat.mul_le_mul_right _ hle
                        obtain ⟨c', e1, e2, e3⟩ := run_storeCells_row (P := P) (b := l.blk) (o := l.base + off + len * ti.size) vs.toList 0 cc w k1 (by simp only [Array.length_toList]; omega) (allOc_ok b2 s2) (fun j _ hj => by
                          simp only [Array.length_toList] at hj
                          have := k7 (off + len * ti.size + j) (by omega) (by omega)
                          rw [show l.base + off + len * ti.size + j = l.base + (off + len * ti.size + j) from by omega]
                          exact this)
                        have hblk := (Array.getElem?_eq_some_iff.1 k1).1
                        have hext : Ext μ (μ.add st.nx ⟨l.blk, l.base + off, l.tot - off⟩) := Mu.add_ext (hf _ (Nat.le_refl _))
                        have hrow : RowR q μ c' (l.base + off) (oldA ++ new) := by
                          intro i a hi
                          rw [e3 (l.base + off + i)]
                          by_cases hlt : i < oldA.length
                          · rw [List.getElem?_append_left hlt, cut_get hcut i (by omega)] at hi
                            obtain ⟨v, g1, g2⟩ := k6 (off + i) a hi
                            exact ⟨v, by rw [if_neg (by omega), Nat.add_assoc]; exact g1, g2⟩
                          · rw [List.getElem?_append_right (by omega)] at hi
                            obtain ⟨v, g1, g2⟩ := s2.get _ a hi
                            have hlt2 := (List.getElem?_eq_some_iff.1 g1).1
                            simp only [Array.length_toList] at hlt2
                            refine ⟨v, ?_, g2⟩
                            rw [if_pos (by simp only [Array.length_toList]; omega), show l.base + off + i - (l.base + off + len * ti.size + 0) = i - oldA.length from by omega]
                            exact g1
                        have hbk : Blk q (μ.add st.nx ⟨l.blk, l.base + off, l.tot - off⟩) (.row et (oldA ++ new) true (b0 && Nat.beq off 0) (fz - off) sm) ⟨l.blk, l.base + off, l.tot - off⟩ (.cells c' et fr) := by
                          refine ⟨c', fr, rfl, by rw [e2, k2]; simp only; omega, by simp only [List.length_append, hol, hlen, s3]; omega, (fun h => nomatch h), fun hb => ?_, hrow.mono hext, fun i hi hi2 => ?_, fun hs => ?_⟩
                          · simp only [Bool.and_eq_true] at hb
                            have := beq_nat hb.2
                            have := k5 hb.1
                            simp only; omega
                          · simp only at hi2 ⊢
                            have := k7 (off + i) (by omega) (by omega)
                            rw [show l.base + off + i = l.base + (off + i) from by omega]; exact this
                          · have := k8 hs
                            rw [e2]
                            refine ⟨this.1, ?_⟩
                            rcases this.2 with h | h
                            · exact .inl h
                            · simp only; exact .inr (by omega)
                        obtain ⟨g, hh, ff⟩ := moveIn_ok (l' := ⟨l.blk, l.base + off, l.tot - off⟩) (w' := { w with heap := w.heap.setIfInBounds l.blk (.cells c' et fr) }) hr hf (by rw [hat]; simp) b1 hl rfl hbk rfl rfl rfl (by simp) (by simp [hblk]) (fun k hk => Array.getElem?_setIfInBounds_ne (fun e => hk e.symm))
                        rw [hv]
                        refine ⟨_, _, run_append_room (P := P) (w := w) (ht w) (hi w) i4 s1 s4 _ len c0 hle (w' := { w with heap := w.heap.setIfInBounds l.blk (.cells c' et fr) }) ?_, _, _, List.mem_singleton.2 rfl, _, ?_, g, hh, ff, ⟨rfl, rfl, rfl⟩⟩
                        · simp only [addr_add]; exact e1
                        · simp only [Rep]
                          exact ⟨_, c0, Mu.add_same _ _ _, rfl, by simp only; omega, (fun _ h => nomatch h), fun _ => by simp only; omega, hle, h5⟩
                      · -- a new place
                        have hold : ∀ w' : World, w'.heap = w.heap → (Builtin.firstCells ti.size len (.slice (some ⟨l.blk, l.base + off, none⟩) len c0)).run P w' = .ok us.toArray w' := fun w' hw => by
                          have := run_loadCells_list (P := P) w' ⟨l.blk, l.base + off, none⟩ us (fun j v hv => by rw [addr_add, cell_of (by rw [hw]; exact k1)]; exact v4 j v hv)
                          rw [v3] at this
                          exact this
                        obtain ⟨zv, z1, z2⟩ := zeroOk_out hD hti b5
                        obtain ⟨c', c1, c2, hrun⟩ := run_append_grow' (P := P) (w := w) (ty := ty) ht hi i4 (by rw [i5]; exact b4) s1 (some ⟨l.blk, l.base + off, none⟩) len c0 hle b3 z1 hold
                        obtain ⟨gk, hk⟩ := kill_ok hr id
                        -- a new row upon the state without the old id
                        let w1 : World := { w with drawn := w.drawn + 1 }
                        let cs := us.toArray ++ vs ++ Builtin.zeroCells zv.cells (c' - (len + n))
                        have hcs : cs.size = c' * ti.size := by
                          simp only [cs, Array.size_append, Builtin.zeroCells, Array.size_map, Array.size_range, z2, s3, List.size_toArray, v3]
                          rw [← Nat.add_mul, ← Nat.add_mul]; congr 1; omega
                        have hrow : RowR q μ cs 0 (oldA ++ new) := by
                          intro i a hi
                          obtain ⟨v, e1, e2⟩ := hrl.get i a hi
                          refine ⟨v, ?_, e2⟩
                          have hlt := (List.getElem?_eq_some_iff.1 e1).1
                          simp only [List.length_append, Array.length_toList] at hlt
                          rw [Nat.zero_add]
                          simp only [cs]
                          rw [Array.getElem?_append_left (by simpa using hlt), ← Array.getElem?_toList, Array.toList_append]
                          exact e1
                        have hext : Ext μ (μ.add st.nx ⟨w1.heap.size, 0, cs.size⟩) := Mu.add_ext (hf _ (Nat.le_refl _))
                        have hmul : (len + n) * ti.size ≤ c' * ti.size := Nat.mul_le_mul_right _ c1
                        have hrlen := hrl.length
                        simp only [List.length_append, Array.length_toList, v3, s3] at hrlen
                        have hbk : Blk q (μ.add st.nx ⟨w1.heap.size, 0, cs.size⟩) (.row et (oldA ++ new) true (b0 && Nat.beq off 0) (fz - off) sm) ⟨w1.heap.size, 0, cs.size⟩ (.cells cs et) :=
                          ⟨cs, (0, 0), rfl, by simp, by simp only [List.length_append, hrlen, hcs]; rw [← Nat.add_mul]; exact hmul, (fun h => nomatch h), fun _ => rfl, hrow.mono hext, fun i _ _ => by simp, fun _ => by simp⟩
                        obtain ⟨g, hh, ff⟩ := new_ok (st := st.kill id) (o := .cells cs et) (HRep.of_heap (w := w) (w' := w1) rfl hk) hf rfl hbk
                        rw [hv]
                        refine ⟨_, _, hrun, _, _, List.mem_singleton.2 rfl, _, ?_, (gk.trans hf (Good.drew (μ := μ) (st := st.kill id) (w := w))).trans hf g, hh, ff, ⟨rfl, rfl, rfl⟩⟩
                        simp only [Rep]
                        exact ⟨_, c', Mu.add_same _ _ _, rfl, by simp [hcs], (fun _ h => nomatch h), fun _ => by simp [hcs], c1, c2⟩
                    · cases h
                · cases h
        · cases h
    · cases h
  · cases h

end ops
end Go.Proofs.YtdkcihleblbkaaaGreatDoor.Eng

/- A verified symbolic executor, part 37: calls: cap, len of a map, functions that the model stands in for. The lemmas hold of every program; no project text. -/
namespace Go.Proofs.YtdkcihleblbkaaaGreatDoor.Eng
set_option linter.unusedVariables false
set_option linter.unusedSimpArgs false
set_option linter.unusedSectionVars false
open Go
set_option linter.unusedSectionVars false
set_option linter.unusedVariables false
set_option linter.unusedSimpArgs false

/-- functions without a body that are known here -/
structure ExtOk (P : Program) (D : Ty) (bt : TypeId) (ext : FuncId → Nat) : Prop where
  cmp : ∀ k, ext k = 1 → ∀ args w, (callFunc k args).run P w = (do pure (.value (← Extern.BytealgCompare.compare args)) : Sem Next).run P w
  esc : ∀ k, ext k = 2 → ∀ args w, (callFunc k args).run P w = (do pure (.value (← Extern.AbiNoEscape.same args)) : Sem Next).run P w
  mkz : ∀ k, ext k = 3 → ∃ ps rs t ti tb, rs[0]? = some t ∧ D t = some ti ∧ ti.cls = .sl bt ∧ D bt = some tb ∧ ∀ args w, (callFunc k args).run P w = (do pure (.value (← Extern.BytealgMakeNoZero.makeNoZero ps rs args)) : Sem Next).run P w
  ov : ∀ k s, ext k = s + 4 → ∃ ps rs t el ti te, ps[0]? = some t ∧ D t = some ti ∧ ti.cls = .sl el ∧ D el = some te ∧ te.size = s ∧ ∀ args w, (callFunc k args).run P w = (do pure (.value (← Extern.SlicesOverlaps.overlaps ps rs args)) : Sem Next).run P w

def ordInt (o : Ordering) : Int := match o with | .lt => -1 | .eq => 0 | .gt => 1

theorem cmp_int {l m : List UInt8} {o : Ordering} (h : ordR o l m) : Go.Lib.compareBytes l m = ordInt o := by
  induction l generalizing m with
  | nil =>
    cases m with
    | nil => cases o <;> simp [ordR, Go.Lib.compareBytes, Op.bytesLess, ordInt] at h ⊢
    | cons _ _ => cases o <;> simp [ordR, Go.Lib.compareBytes, Op.bytesLess, ordInt] at h ⊢
  | cons a l ih =>
    cases m with
    | nil => cases o <;> simp [ordR, Go.Lib.compareBytes, Op.bytesLess, ordInt] at h ⊢
    | cons b m =>
      simp only [Go.Lib.compareBytes]
      by_cases h1 : a < b
      · rw [if_pos h1]
        have hne : a ≠ b := fun e => by subst e; exact absurd h1 (UInt8.lt_irrefl a)
        cases o with
        | lt => rfl
        | eq => simp only [ordR] at h; cases h.2; exact absurd rfl hne
        | gt => simp [ordR, Op.bytesLess, h1] at h
      · rw [if_neg h1]
        by_cases h2 : b < a
        · rw [if_pos h2]
          have hne : a ≠ b := fun e => by subst e; exact h1 h2
          cases o with
          | lt => simp [ordR, Op.bytesLess, h1, hne] at h
          | eq => simp only [ordR] at h; cases h.2; exact absurd rfl hne
          | gt => rfl
        · rw [if_neg h2]
          have heq : a = b := by
            apply UInt8.toNat_inj.1
            have := UInt8.not_lt.1 h1
            have := UInt8.not_lt.1 h2
            have e1 : a.toNat ≤ b.toNat := by assumption
            have e2 : b.toNat ≤ a.toNat := by assumption
            omega
          subst heq
          apply ih
          cases o <;> simpa [ordR, Op.bytesLess] using h

theorem cmp_range : ∀ (l m : List UInt8), -1 ≤ Go.Lib.compareBytes l m ∧ Go.Lib.compareBytes l m ≤ 1
  | [], [] => by simp [Go.Lib.compareBytes]
  | [], _ :: _ => by simp [Go.Lib.compareBytes]
  | _ :: _, [] => by simp [Go.Lib.compareBytes]
  | a :: l, b :: m => by
    simp only [Go.Lib.compareBytes]
    split
    · omega
    · split
      · omega
      · exact cmp_range l m

theorem run_callV {P : Program} {o : Oper} {ρ : Operand → Value} {w : World} {c : Call} {f : Operand} {fn : Fn} {a b : Array Value} (ho : o.op = .call c) (hc : c.callee = .value f) (hv : ρ f = .func fn a b) :
    (execOp ρ o).run P w = (invoke (.fn fn b) (a ++ c.args.map ρ)).run P w := by
  simp [execOp, ho, resolve, hc, hv, Deferred.ofValue]

section ops
variable {P : Program} {D : Ty} (hD : DOk P D) {q : Nat} (hq : q < 8) {μ : Mu} {st : St} {w : World} (hr : HRep q μ st.h w) (hf : ∀ id, st.nx ≤ id → μ id = none)
include hD hq hr hf

theorem capA_ok {id off len es : Nat} {rets : Ret} {v : Value} (h : capA st id off len es = some rets) (r : Rep q μ (.sl id off len none es) v) : ∃ p c, v = .slice p len c ∧ Post q μ st w rets (goInt c) w := by
  simp only [Rep] at r
  obtain ⟨l, c, hl, rfl, h1, _, h3, h4, h5⟩ := r
  have h3 := h3 trivial
  refine ⟨_, c, rfl, ?_⟩
  unfold capA at h
  split at h
  · rename_i et cells b0 fz sm hat
    cases hb : (st.canW id && Nat.beq cells.length (off + len * es) && Nat.blt 0 es) with
    | false =>
      simp only [hb, cond_false, Option.some.injEq] at h; subst h
      exact post_pure hr hf (by simp only [Rep, goInt]; exact ⟨c, rfl, by omega, by omega⟩)
    | true =>
      simp only [hb, cond_true, Option.some.injEq] at h; subst h
      simp only [Bool.and_eq_true] at hb
      obtain ⟨⟨hw, b2⟩, b3⟩ := hb
      have b2 := beq_nat b2
      have b3 := blt_lt b3
      obtain ⟨l', cc, fr, k0, k1, k2, k3, k4, k5, k6, k7, k8⟩ := row_out hr hat hl
      rw [hl] at k0
      obtain rfl := Option.some.inj k0
      by_cases hc : c = len
      · subst hc
        have ht := turn_ok (o := .cells cc et fr) (b := .row et cells false b0 fz sm) (w' := w) hr (by rw [hat]; simp) hw hl ⟨cc, fr, rfl, k2, k3, fun _ => by omega, k5, k6, k7, k8⟩ rfl rfl rfl rfl k1 (fun _ _ => rfl)
        exact ⟨_, _, List.mem_cons.2 (.inl rfl), μ, by simp [Rep, goInt], ht.1, ht.2, hf, St.turn_kept _ _ _⟩
      · have hmul : (len + 1) * es ≤ c * es := Nat.mul_le_mul_right _ (by omega)
        rw [Nat.add_mul, Nat.one_mul] at hmul
        have ht := turn_ok (o := .cells cc et fr) (b := .row et (cells ++ List.replicate es .any) true b0 fz sm) (w' := w) hr (by rw [hat]; simp) hw hl
          ⟨cc, fr, rfl, k2, by simp; omega, (fun h => nomatch h), k5, fun i a hi => by
            by_cases hlt : i < cells.length
            · rw [List.getElem?_append_left hlt] at hi; exact k6 i a hi
            · rw [List.getElem?_append_right (by omega)] at hi
              have h2 := (List.getElem?_eq_some_iff.1 hi).1
              simp at h2
              have : a = .any := by
                have := List.mem_of_getElem? hi
                exact List.eq_of_mem_replicate this
              subst this
              exact ⟨cc[l.base + i]'(by omega), Array.getElem?_eq_getElem _, by simp [Rep]⟩, k7, k8⟩ rfl rfl rfl rfl k1 (fun _ _ => rfl)
        exact ⟨_, _, List.mem_cons.2 (.inr (List.mem_cons.2 (.inl rfl))), μ, by simp only [Rep, goInt]; exact ⟨c, rfl, by omega, by omega⟩, ht.1, ht.2, hf, St.turn_kept _ _ _⟩
  · cases h

theorem looseA_ok {i o : Nat} {l : Loc} (hl : μ i = some l) (h : looseA st i o = true) : ∃ c et fr, w.heap[l.blk]? = some (.cells c et fr) ∧ w.frozen? ⟨l.blk, l.base + o, none⟩ = false ∧ w.frozen? ⟨l.blk, c.size, none⟩ = false := by
  unfold looseA at h
  split at h
  · rename_i et cells opn b0 fz hat
    simp only [Bool.and_eq_true, Nat.ble_eq] at h
    have h2 := blt_lt h.2
    obtain ⟨l', cc, fr, k0, k1, k2, k3, k4, k5, k6, k7, k8⟩ := row_out hr hat hl
    rw [hl] at k0
    obtain rfl := Option.some.inj k0
    refine ⟨cc, et, fr, k1, ?_, ?_⟩
    · rw [frozen_row k1]
      have := k7 o h.1 (by omega)
      simp only [Bool.and_eq_false_iff, decide_eq_false_iff_not]; omega
    · rw [frozen_row k1]
      have := (k8 rfl).1
      simp only [Bool.and_eq_false_iff, decide_eq_false_iff_not]; omega
  · cases h

theorem overlaps_ok {ps rs : Array TypeId} {t el : TypeId} {ti te : TI} {s : Nat} (hp : ps[0]? = some t) (ht : D t = some ti) (hs : ti.cls = .sl el) (hte : D el = some te) (hsz : te.size = s) {i o n i' o' n' es es' : Nat} {cap cap' : Option Nat} {va vb : Value} {rets : Ret}
    (h : (bif Nat.beq n 0 || Nat.beq n' 0 then some [(AV.bool false, st)]
      else bif Nat.blt 0 s then (bif Nat.beq i i' then some [(AV.bool (Nat.blt o (o' + n' * s) && Nat.blt o' (o + n * s)), st)]
      else bif Nat.blt 0 (knownCells st i) && Nat.blt 0 (knownCells st i') && (looseA st i o || looseA st i' o') then some [(AV.bool false, st)] else none) else none) = some rets)
    (ha : Rep q μ (.sl i o n cap es) va) (hb : Rep q μ (.sl i' o' n' cap' es') vb) : ∃ v, (Extern.SlicesOverlaps.overlaps ps rs #[va, vb]).run P w = .ok v w ∧ Post q μ st w rets v w := by
  obtain ⟨d, d1, d2, d3⟩ := run_und hD w ht
  rw [hs] at d2
  obtain rfl := cls_sl d2
  have hsize := run_size hD w hte
  rw [hsz] at hsize
  simp only [Rep] at ha hb
  obtain ⟨l, c, hl, rfl, _⟩ := ha
  obtain ⟨l', c', hl', rfl, _⟩ := hb
  have hdef : Extern.SlicesOverlaps.overlaps ps rs #[.slice (some ⟨l.blk, l.base + o, none⟩) n c, .slice (some ⟨l'.blk, l'.base + o', none⟩) n' c'] = (do
    let some t := ps[0]? | stuck "slices.overlaps: no parameter types"
    let .slice elem ← underlying t | stuck "slices.overlaps: slice type expected"
    let size ← sizeOf elem
    if n = 0 ∨ n' = 0 ∨ size = 0 then pure (.bool false)
    else if l.blk != l'.blk && (← frozen ⟨l.blk, l.base + o, none⟩) && (← frozen ⟨l'.blk, l'.base + o', none⟩) then unsupported .addressObserved
    else do
      if l.blk != l'.blk then do
        noView ⟨l.blk, l.base + o, none⟩; noView ⟨l'.blk, l'.base + o', none⟩
        if ← mayBeOne ⟨l.blk, l.base + o, none⟩ ⟨l'.blk, l'.base + o', none⟩ then return .bool ((← choose (.extern "sameAddr.stringBytes" 2)) == 1)
      pure (.bool (l.blk == l'.blk && l.base + o < l'.base + o' + n' * size && l'.base + o' < l.base + o + n * size))) := rfl
  cases hn : (Nat.beq n 0 || Nat.beq n' 0) with
  | true =>
    simp only [hn, cond_true, Option.some.injEq] at h; subst h
    refine ⟨.bool false, ?_, post_pure hr hf (by simp [Rep])⟩
    have : n = 0 ∨ n' = 0 ∨ s = 0 := by
      simp only [Bool.or_eq_true] at hn
      rcases hn with hn | hn
      · exact .inl (beq_nat hn)
      · exact .inr (.inl (beq_nat hn))
    rw [hdef]
    simp only [hp, Sem.run_bind, d3, hsize, Result.andThen_ok, if_pos this, Sem.run_pure]
  | false =>
    simp only [hn, cond_false] at h
    simp only [Bool.or_eq_false_iff] at hn
    have n1 : n ≠ 0 := fun e => by subst e; simp at hn
    have n2 : n' ≠ 0 := fun e => by subst e; simp at hn
    cases hs0 : Nat.blt 0 s with
    | false => simp [hs0] at h
    | true =>
      simp only [hs0, cond_true] at h
      have hs0 := blt_lt hs0
      have hneg : ¬ (n = 0 ∨ n' = 0 ∨ s = 0) := by omega
      cases hi : Nat.beq i i' with
      | true =>
        simp only [hi, cond_true, Option.some.injEq] at h; subst h
        have hi := beq_nat hi
        subst hi
        rw [hl] at hl'
        obtain rfl := Option.some.inj hl'
        refine ⟨.bool (Nat.blt o (o' + n' * s) && Nat.blt o' (o + n * s)), ?_, post_pure hr hf (by simp [Rep])⟩
        rw [hdef]
        have hb1 : decide (l.base + o < l.base + o' + n' * s) = Nat.blt o (o' + n' * s) := by
          rw [Bool.eq_iff_iff, decide_eq_true_eq, Nat.blt_eq]; omega
        have hb2 : decide (l.base + o' < l.base + o + n * s) = Nat.blt o' (o + n * s) := by
          rw [Bool.eq_iff_iff, decide_eq_true_eq, Nat.blt_eq]; omega
        simp [hp, d3, hsize, n1, n2, Nat.pos_iff_ne_zero.1 hs0, run_frozen, hb1, hb2]
      | false =>
        simp only [hi, cond_false] at h
        have hine : i ≠ i' := fun e => by subst e; simp at hi
        cases hk : (Nat.blt 0 (knownCells st i) && Nat.blt 0 (knownCells st i') && (looseA st i o || looseA st i' o')) with
        | false => simp [hk] at h
        | true =>
          simp only [hk, cond_true, Option.some.injEq] at h; subst h
          simp only [Bool.and_eq_true, Bool.or_eq_true] at hk
          obtain ⟨⟨hk1, hk2⟩, hk3⟩ := hk
          obtain ⟨ca, eta, fra, ha1, ha2⟩ := known_lt (e := fun _ => none) (ρ := fun _ => .nilFunc) hD hq hr hf (fun x a h => by cases h) hl (blt_lt hk1)
          obtain ⟨cb, etb, frb, hb1, hb2⟩ := known_lt (e := fun _ => none) (ρ := fun _ => .nilFunc) hD hq hr hf (fun x a h => by cases h) hl' (blt_lt hk2)
          have hne : ∀ j, 0 < knownCells st j → st.h.at_ j ≠ none := fun j hj h0 => by unfold knownCells at hj; rw [h0] at hj; simp at hj
          have hblk : l.blk ≠ l'.blk := fun e => hine (hr.inj i i' l l' (hne i (blt_lt hk1)) (hne i' (blt_lt hk2)) hl hl' e)
          have hca : ca.size ≠ 0 := by omega
          have hcb : cb.size ≠ 0 := by omega
          refine ⟨.bool false, ?_, post_pure hr hf (by simp [Rep])⟩
          rw [hdef]
          have hv1 : (noView ⟨l.blk, l.base + o, none⟩).run P w = .ok () w := by simp [noView, run_viewAt_row ha1]
          have hv2 : (noView ⟨l'.blk, l'.base + o', none⟩).run P w = .ok () w := by simp [noView, run_viewAt_row hb1]
          have hstr : ∀ (b o : Nat) {c : Array Value} {et : TypeId} {fr : Nat × Nat}, w.heap[b]? = some (.cells c et fr) → (stringish ⟨b, o, none⟩).run P w = .ok (w.frozen? ⟨b, o, none⟩ || w.frozen? ⟨b, c.size, none⟩) w := by
            intro b o c et fr hc
            simp only [stringish, Sem.run_bind, run_frozen, Result.andThen_ok]
            cases w.frozen? ⟨b, o, none⟩ with
            | true => simp
            | false => simp [run_shape, shape_row hc, run_frozen]
          have hone : (mayBeOne ⟨l.blk, l.base + o, none⟩ ⟨l'.blk, l'.base + o', none⟩).run P w = .ok false w := by
            have hz : ∀ n : Nat, n ≠ 0 → (match some (eta, n) with | some (_, 0) => true | _ => false) = false := fun n hn => by cases n with | zero => exact absurd rfl hn | succ n => rfl
            have hz' : ∀ n : Nat, n ≠ 0 → (match some (etb, n) with | some (_, 0) => true | _ => false) = false := fun n hn => by cases n with | zero => exact absurd rfl hn | succ n => rfl
            obtain ⟨na, hna⟩ : ∃ n, ca.size = n + 1 := ⟨ca.size - 1, by omega⟩
            obtain ⟨nb, hnb⟩ : ∃ n, cb.size = n + 1 := ⟨cb.size - 1, by omega⟩
            simp only [mayBeOne, Sem.run_bind, hstr l.blk _ ha1, hstr l'.blk _ hb1, Result.andThen_ok, run_shape, shape_row ha1, shape_row hb1, Sem.run_pure, hna, hnb]
            rcases hk3 with hk3 | hk3
            · obtain ⟨c1, e1, f1, g1, g2, g3⟩ := looseA_ok hD hq hr hf hl hk3
              rw [ha1] at g1
              cases g1
              rw [hna] at g3
              simp [g2, g3]
            · obtain ⟨c1, e1, f1, g1, g2, g3⟩ := looseA_ok hD hq hr hf hl' hk3
              rw [hb1] at g1
              cases g1
              rw [hnb] at g3
              simp [g2, g3]
          have hfz : (w.frozen? ⟨l.blk, l.base + o, none⟩ && w.frozen? ⟨l'.blk, l'.base + o', none⟩) = false := by
            rcases hk3 with hk3 | hk3
            · obtain ⟨c1, e1, f1, g1, g2, g3⟩ := looseA_ok hD hq hr hf hl hk3
              simp [g2]
            · obtain ⟨c1, e1, f1, g1, g2, g3⟩ := looseA_ok hD hq hr hf hl' hk3
              simp [g2]
          have hfz' : ¬ (w.frozen? ⟨l.blk, l.base + o, none⟩ = true ∧ w.frozen? ⟨l'.blk, l'.base + o', none⟩ = true) := by
            rw [← Bool.and_eq_true, hfz]; simp
          simp [hp, d3, hsize, n1, n2, Nat.pos_iff_ne_zero.1 hs0, run_frozen, hblk, hfz', hv1, hv2, hone]

end ops
end Go.Proofs.YtdkcihleblbkaaaGreatDoor.Eng

/- A verified symbolic executor, part 38: all operations at the heap. The lemmas hold of every program; no project text. -/
namespace Go.Proofs.YtdkcihleblbkaaaGreatDoor.Eng
set_option linter.unusedVariables false
set_option linter.unusedSimpArgs false
set_option linter.unusedSectionVars false
open Go
set_option linter.unusedSectionVars false
set_option linter.unusedVariables false
set_option linter.unusedSimpArgs false

theorem digits_spec : ∀ (n t : Nat) (acc : Array Value), (Extern.BytealgMakeNoZero.digits n t acc).size = acc.size + n ∧ (∀ i, i < acc.size → (Extern.BytealgMakeNoZero.digits n t acc)[i]? = acc[i]?) ∧
    ∀ i, acc.size ≤ i → i < acc.size + n → ∃ m : Nat, m < 256 ∧ (Extern.BytealgMakeNoZero.digits n t acc)[i]? = some (.int .u8 (m : Int))
  | 0, t, acc => ⟨rfl, fun _ _ => rfl, fun i h1 h2 => by omega⟩
  | n + 1, t, acc => by
    obtain ⟨h1, h2, h3⟩ := digits_spec n (t / 256) (acc.push (.int .u8 (Int.ofNat (t % 256))))
    simp only [Array.size_push] at h1 h2 h3
    simp only [Extern.BytealgMakeNoZero.digits]
    refine ⟨by rw [h1]; omega, fun i hi => ?_, fun i hi hi2 => ?_⟩
    · rw [h2 i (by omega), Array.getElem?_push, if_neg (by omega)]
    · by_cases e : i = acc.size
      · subst e
        exact ⟨t % 256, Nat.mod_lt _ (by decide), by rw [h2 _ (by omega)]; simp⟩
      · exact h3 i (by omega) (by omega)

section ops
variable {P : Program} {D : Ty} (hD : DOk P D) {q : Nat} (hq : q < 8) {μ : Mu} {st : St} {w : World} (hr : HRep q μ st.h w) (hf : ∀ id, st.nx ≤ id → μ id = none)
include hD hq hr hf

theorem noZero_ok {ps rs : Array TypeId} {t bt : TypeId} {ti : TI} {n : Nat} (hp : rs[0]? = some t) (ht : D t = some ti) (hs : ti.cls = .sl bt) (hn : n ≤ 1000000) :
    ∃ v w', (Extern.BytealgMakeNoZero.makeNoZero ps rs #[.int .i64 n]).run P w = .ok v w' ∧ Post q μ st w [(.sl st.nx 0 n none 1, st.open_ bt (List.replicate n (.aint .u8 0 255)) true false)] v w' := by
  obtain ⟨d, d1, d2, _⟩ := run_und hD w ht
  rw [hs] at d2
  obtain rfl := cls_sl d2
  let cap := (Question.appendCap n 0 bt).cut (w.tape w.drawn (.appendCap n 0 bt))
  have hcap : n ≤ cap ∧ cap < 9223372036854775808 := by
    simp only [cap, Question.cut]
    have : (w.tape w.drawn (.appendCap n 0 bt)) % (2 ^ 63 - n) < 2 ^ 63 - n := Nat.mod_lt _ (by omega)
    omega
  let w1 : World := w.drew
  let w2 : World := w1.drew
  let nb := (Question.extern "internal/bytealg.MakeNoZero.bytes" 0).cut (w1.tape w1.drawn (.extern "internal/bytealg.MakeNoZero.bytes" 0))
  let cells := Extern.BytealgMakeNoZero.digits cap nb #[]
  obtain ⟨z1, _, z3⟩ := digits_spec cap nb #[]
  have hsz : cells.size = cap := by simpa using z1
  have hr2 : HRep q μ st.h w2 := HRep.of_heap (w := w) (w' := w2) rfl hr
  have hext : Ext μ (μ.add st.nx ⟨w2.heap.size, 0, cells.size⟩) := Mu.add_ext (hf _ (Nat.le_refl _))
  have hrow : RowR q μ cells 0 (List.replicate n (.aint .u8 0 255)) := by
    intro i a hi
    have hlt := (List.getElem?_eq_some_iff.1 hi).1
    simp at hlt
    have : a = .aint .u8 0 255 := List.eq_of_mem_replicate (List.mem_of_getElem? hi)
    subst this
    obtain ⟨m, m1, m2⟩ := z3 i (by simp) (by simp; omega)
    exact ⟨.int .u8 m, by rw [Nat.zero_add]; exact m2, by simp only [Rep]; exact ⟨_, rfl, by omega, by omega⟩⟩
  have hblk : Blk q (μ.add st.nx ⟨w2.heap.size, 0, cells.size⟩) (.row bt (List.replicate n (.aint .u8 0 255)) true true 0 false) ⟨w2.heap.size, 0, cells.size⟩ (.cells cells bt) :=
    ⟨cells, (0, 0), rfl, by simp, by simp; omega, (fun h => nomatch h), fun _ => rfl, hrow.mono hext, fun i _ _ => by simp, fun _ => by simp⟩
  obtain ⟨g, h, f⟩ := new_ok (o := .cells cells bt) hr2 hf rfl hblk
  have g0 : Good μ st w μ st w2 := (Good.drew (w := w)).trans hf (Good.drew (w := w1))
  have hrun : (Extern.BytealgMakeNoZero.makeNoZero ps rs #[.int .i64 n]).run P w = .ok (.slice (some ⟨w2.heap.size, 0, none⟩) n cap) { w2 with heap := w2.heap.push (.cells cells bt) } := by
    have hdef : Extern.BytealgMakeNoZero.makeNoZero ps rs #[.int .i64 n] = (do
      let some t := rs[0]? | stuck "bytealg.MakeNoZero: no result type"
      let .slice elem ← underlying t | stuck "bytealg.MakeNoZero: slice type expected"
      if (n : Int) < 0 || (n : Int) > 2 ^ 48 then runtimePanic (.error "makeslice: len out of range")
      let cap ← choose (.appendCap (n : Int).toNat 0 elem)
      askRoom cap
      let bytes ← choose (.extern "internal/bytealg.MakeNoZero.bytes" 0)
      let a ← newRow elem (Extern.BytealgMakeNoZero.digits cap bytes #[])
      pure (.slice (some a) (n : Int).toNat cap)) := rfl
    have hneg : ¬ ((n : Int) < 0) := by omega
    have hbig : ¬ ((n : Int) > 2 ^ 48) := by omega
    have hneg' : decide ((n : Int) < 0) = false := decide_eq_false hneg
    have hbig' : decide ((n : Int) > 2 ^ 48) = false := decide_eq_false hbig
    have hask : (askRoom cap).run P w1 = .ok () w1 := by
      unfold askRoom
      split <;> simp [mark, Sem.run]
    have hc1 : (choose (.appendCap n 0 bt)).run P w = .ok cap w1 := by rw [Go.run_choose]; rfl
    have hc2 : (choose (.extern "internal/bytealg.MakeNoZero.bytes" 0)).run P w1 = .ok nb w2 := by rw [Go.run_choose]; rfl
    have hnr : (newRow bt cells).run P w2 = .ok ⟨w2.heap.size, 0, none⟩ { w2 with heap := w2.heap.push (.cells cells bt) } := rfl
    rw [hdef]
    simp only [hp, Sem.run_bind, run_underlying d1, Result.andThen_ok, hneg', hbig', Bool.or_self, Bool.false_eq_true, if_false, Sem.run_pure, Int.toNat_natCast, hc1, hask, hc2]
    rw [hnr]
    simp
  refine ⟨_, _, hrun, post_new (st' := st.open_ bt (List.replicate n (.aint .u8 0 255)) true false) ?_ (g0.trans hf g) h f (St.new_kept _ _)⟩
  simp only [Rep]
  exact ⟨_, cap, Mu.add_same _ _ _, rfl, by simp [hsz], (fun _ h => nomatch h), fun _ => by simp [hsz], hcap.1, hcap.2⟩

theorem ext_does {bt : TypeId} {ext : FuncId → Nat} (hE : ExtOk P D bt ext) {o : Oper} {ρ : Operand → Value} {k : FuncId} {args : List AV} {argsV : Array Value} {rets : Ret} (hp : Op.plain o.op = true) (hrun : (execOp ρ o).run P w = (callFunc k argsV).run P w)
    (ha : RepL q μ args argsV.toList) (h : extA bt st (ext k) args = some rets) : OpDoes P o ρ w (Post q μ st w rets) := by
  have hsize2 : ∀ {a b : AV}, args = [a, b] → ∃ va vb, argsV = #[va, vb] ∧ Rep q μ a va ∧ Rep q μ b vb := by
    intro a b hab
    rw [hab] at ha
    cases hl : argsV.toList with
    | nil => rw [hl] at ha; simp [RepL] at ha
    | cons va l =>
      rw [hl] at ha
      cases l with
      | nil => simp [RepL] at ha
      | cons vb l =>
        cases l with
        | nil => simp only [RepL] at ha; exact ⟨va, vb, by apply Array.ext'; rw [hl], ha.1, ha.2.1⟩
        | cons _ _ => simp [RepL] at ha
  have hsize1 : ∀ {a : AV}, args = [a] → ∃ va, argsV = #[va] ∧ Rep q μ a va := by
    intro a hab
    rw [hab] at ha
    cases hl : argsV.toList with
    | nil => rw [hl] at ha; simp [RepL] at ha
    | cons va l =>
      rw [hl] at ha
      cases l with
      | nil => simp only [RepL] at ha; exact ⟨va, by apply Array.ext'; rw [hl], ha.1⟩
      | cons _ _ => simp [RepL] at ha
  have fin : ∀ {s : Sem Value} {v : Value} {w' : World}, (callFunc k argsV).run P w = (do pure (.value (← s)) : Sem Next).run P w → s.run P w = .ok v w' → Post q μ st w rets v w' → OpDoes P o ρ w (Post q μ st w rets) := by
    intro s v w' h1 h2 h3
    refine does_value hp (v := v) (w' := w') ?_ h3
    rw [hrun, h1]
    simp [h2]
  generalize hk : ext k = code at h
  unfold extA at h
  split at h
  · rename_i a b
    obtain ⟨va, vb, rfl, ra, rb⟩ := hsize2 rfl
    simp only [Rep] at ra rb
    obtain ⟨ba, rfl, ha1⟩ := ra
    obtain ⟨bb, rfl, hb1⟩ := rb
    have hrun1 : (Extern.BytealgCompare.compare #[.string ba, .string bb]).run P w = .ok (goInt (Go.Lib.compareBytes ba.data.toList bb.data.toList)) w := by
      rw [← Go.Lib.cmp_eq]
      have hdef : Extern.BytealgCompare.compare #[.string ba, .string bb] = (do pure (goInt (Extern.BytealgCompare.cmp (← Extern.Bytes.bytesOf (.string ba)) (← Extern.Bytes.bytesOf (.string bb))))) := rfl
      rw [hdef]
      simp [Extern.Bytes.bytesOf]
    refine fin (hE.cmp k hk _ _) hrun1 ?_
    split at h
    · rename_i o' ho'
      simp only [Option.some.injEq] at h; subst h
      have := cmp_int (cmpS_ok hq ho' ha1 hb1)
      refine post_pure hr hf ?_
      rw [this]
      simp only [Rep, goInt, ordInt]
      cases o' <;> rfl
    · simp only [Option.some.injEq] at h; subst h
      obtain ⟨c1, c2⟩ := cmp_range ba.data.toList bb.data.toList
      refine post_pure hr hf ?_
      simp only [Rep, goInt]
      exact ⟨_, rfl, c1, c2⟩
  · rename_i a
    obtain ⟨va, rfl, ra⟩ := hsize1 rfl
    simp only [Option.some.injEq] at h; subst h
    exact fin (hE.esc k hk _ _) (s := Extern.AbiNoEscape.same #[va]) (v := va) (w' := w) rfl (post_pure hr hf ra)
  · rename_i n
    obtain ⟨va, rfl, ra⟩ := hsize1 rfl
    simp only [Rep] at ra; subst ra
    cases hb : Nat.ble n 1000000 with
    | false => simp [hb] at h
    | true =>
      simp only [hb, cond_true, Option.some.injEq] at h; subst h
      rw [Nat.ble_eq] at hb
      obtain ⟨ps, rs, t, ti, tb, e1, e2, e3, e4, e5⟩ := hE.mkz k hk
      obtain ⟨v, w', h1, h2⟩ := noZero_ok (P := P) hD hq hr hf (ps := ps) e1 e2 e3 hb
      exact fin (e5 _ _) h1 h2
  · rename_i s i o1 n cap es i' o1' n' cap' es'
    obtain ⟨va, vb, rfl, ra, rb⟩ := hsize2 rfl
    obtain ⟨ps, rs, t, el, ti, te, e1, e2, e3, e4, e5, e6⟩ := hE.ov k s hk
    obtain ⟨v, h1, h2⟩ := overlaps_ok (P := P) (rs := rs) hD hq hr hf e1 e2 e3 e4 e5 h ra rb
    exact fin (e6 _ _) h1 h2
  · cases h

end ops

/-- what is asked of a round's executor -/
def YlOk (P : Program) (q : Nat) (yl : Nat → List AV → St → Option Ret) : Prop :=
  ∀ id args st rets, yl id args st = some rets → ∀ μ w (argsV : Array Value) l0, HRep q μ st.h w → (∀ id, st.nx ≤ id → μ id = none) → RepL q μ args argsV.toList → μ id = some l0 →
    ∃ lc rc, μ id = some lc ∧ w.heap[lc.blk]? = some (.loop rc) ∧ argsV.size = rc.params.size ∧
      Rounds P (Frame.round lc.blk rc.fn ((rc.params.zip argsV).foldl (fun tmps (t, a) => tmps.setIfInBounds t a) rc.tmps) rc.assign rc.body .normal) w (Post q μ st w rets)

theorem bytes_u8 {D : Ty} {el : TypeId} : True := trivial

theorem heapA_ok {P : Program} {q : Nat} (hq : q < 8) {cx : Cx} (hD : DOk P cx.D) (hE : ExtOk P cx.D cx.bt cx.ext) (hcf : CallOk P q cx.cf) (hent : ∀ k args st rets, cx.ext k = 0 → cx.cf k args st = some rets → Enters P k) (hyl : YlOk P q cx.yl) : OpOk P q (heapA cx) := by
  intro st e o rets h μ w ρ hr hf he
  unfold heapA at h
  split at h
  -- alloc
  · rename_i el ho
    split at h
    · rename_i c sz by_ z eq hti
      split at h
      · rename_i cs hc
        simp only [Option.some.injEq] at h; subst h
        exact alloc_does hD hq hr hf he ho hti rfl hc
      · cases h
    · cases h
  -- box
  · rename_i el x ho
    split at h
    · rename_i a hx
      split at h
      · rename_i cs hc
        simp only [Option.some.injEq] at h; subst h
        exact box_does hD hq hr hf he ho hx hc
      · cases h
    · cases h
  -- buildSlice
  · rename_i t len parts ho
    split at h
    · rename_i el sz0 by0 z0 eq0 ht
      split at h
      · rename_i c1 size by1 z eq1 ps hti hps
        split at h
        · rename_i zc hc
          cases hb : (Nat.ble (len * size) 100000 && Nat.ble len 100000 && Nat.beq zc.length size) with
          | false => simp [hb] at h
          | true =>
            simp only [hb, cond_true] at h
            simp only [Bool.and_eq_true, Nat.ble_eq] at hb
            obtain ⟨⟨b1, b2⟩, b3⟩ := hb
            split at h
            · rename_i cs hfl
              simp only [Option.some.injEq] at h; subst h
              exact buildSlice_does hD hr hf he ho ht rfl hti rfl hc hps b1 b2 (beq_nat b3) hfl
            · cases h
        · cases h
      · cases h
    · cases h
  -- load
  · rename_i t x ho
    split at h
    · rename_i a hx
      unfold stay at h
      split at h
      · rename_i r hl
        simp only [Option.some.injEq] at h; subst h
        exact load_does hD hq hr hf he ho hx hl
      · cases h
    · cases h
  -- store
  · rename_i t x y ho
    split at h
    · rename_i a v hx hy
      unfold unitR at h
      split at h
      · rename_i s hs
        simp only [Option.some.injEq] at h; subst h
        exact store_does hD hq hr hf he ho hx hy hs
      · cases h
    · cases h
  -- convert
  · rename_i src dst x ho
    split at h
    · rename_i el s1 b1 z1 q1 s2 b2 z2 q2 i off hs hd hx
      split at h
      · rename_i te hte
        cases hb : (Nat.blt 0 te.size && Nat.blt off (knownCells st i)) with
        | false => simp [hb] at h
        | true =>
          simp only [hb, cond_true, Option.some.injEq] at h; subst h
          simp only [Bool.and_eq_true] at hb
          exact toUptr_does hD hq hr hf he ho hs rfl hd rfl hte (blt_lt hb.1) hx (blt_lt hb.2)
      · cases h
    · rename_i s1 b1 z1 q1 u s2 b2 z2 q2 i off hs hd hx
      split at h
      · rename_i tu et cells fz sm hu hat
        cases hb : (Nat.beq et u && Nat.beq off 0 && Nat.beq cells.length tu.size && Nat.blt 0 tu.size) with
        | false => simp [hb] at h
        | true =>
          simp only [hb, cond_true, Option.some.injEq] at h; subst h
          simp only [Bool.and_eq_true] at hb
          obtain ⟨⟨⟨b1, b2⟩, b3⟩, b4⟩ := hb
          have e1 := beq_nat b1
          have e2 := beq_nat b2
          subst e1
          subst e2
          exact toPtr_does hD hq hr hf he ho hs rfl hd rfl hu (blt_lt b4) hx hat (beq_nat b3)
      · cases h
    · rename_i el s1 b1 z1 q1 s2 b2 z2 q2 a hs hd hx
      split at h
      · rename_i s3 b3 z3 q3 hte
        split at h
        · simp only [Option.some.injEq] at h; subst h
          exact toStr0_does hD hq hr hf he ho hs rfl hd rfl hte rfl hx
        · rename_i id off len cap es
          cases hb : Nat.beq es 1 with
          | false => simp [hb] at h
          | true =>
            simp only [hb, cond_true] at h
            have hb := beq_nat hb
            split at h
            · rename_i cs hcs
              split at h
              · rename_i s hsb
                simp only [Option.some.injEq] at h; subst h
                subst hb
                exact toStr_does (a := .sl0) hD hq hr hf he ho hs rfl hd rfl hte rfl hx rfl hcs hsb
              · cases h
            · cases h
        · cases h
      · cases h
    · rename_i s1 b1 z1 q1 el s2 b2 z2 q2 s hs hd hx
      split at h
      · rename_i s3 b3 z3 q3 hte
        cases hb : Nat.ble s.length 1000000 with
        | false => simp [hb] at h
        | true =>
          simp only [hb, cond_true, Option.some.injEq] at h; subst h
          exact toBytes_does hD hq hr hf he ho hs rfl hd rfl hte rfl hx (by simpa using hb)
      · cases h
    · cases h
  -- makeMap
  · rename_i t ho
    simp only [Option.some.injEq] at h; subst h
    exact makeMap_does hD hq hr hf he ho
  -- makeSlice
  · rename_i t l c ho
    split at h
    · rename_i el s1 b1 z1 q1 kl n kc m ht hl hc
      split at h
      · rename_i c2 size bytes z q2 hti
        split at h
        · rename_i zc hz
          cases hb : (Nat.ble n m && Nat.ble m 1000000 && Nat.ble bytes 100000 && Nat.beq zc.length size) with
          | false => simp [hb] at h
          | true =>
            simp only [hb, cond_true, Option.some.injEq] at h; subst h
            simp only [Bool.and_eq_true, Nat.ble_eq] at hb
            obtain ⟨⟨⟨b1, b2⟩, b3⟩, b4⟩ := hb
            exact makeSlice_does hD hq hr hf he ho ht rfl hl hc hti rfl hz b1 b2 b3 (beq_nat b4)
        · cases h
      · cases h
    · cases h
  -- slice
  · rename_i t x lo hi mx ho
    split at h
    · rename_i el s1 b1 z1 q1 i off n c es ht hx
      unfold stay at h
      split at h
      · rename_i r hl
        simp only [Option.some.injEq] at h; subst h
        have hl' := hl
        unfold sliceSlA at hl'
        split at hl'
        · cases hl'
        · rename_i ti hti
          exact slice_does hD hq hr hf he ho ht rfl hti hx hl
      · cases h
    · rename_i n el s1 b1 z1 q1 i off ht hx
      split at h
      · rename_i ti hti
        cases hb : (Nat.ble (off + n * ti.size) (knownCells st i) && Nat.ble n 1000000) with
        | false => simp [hb] at h
        | true =>
          simp only [hb, cond_true] at h
          simp only [Bool.and_eq_true, Nat.ble_eq] at hb
          unfold stay at h
          split at h
          · rename_i r hl
            simp only [Option.some.injEq] at h; subst h
            obtain ⟨d, d1, d2, d3⟩ := run_und hD w ht
            obtain rfl := cls_arr d2
            have hx' := he x _ hx
            simp only [Rep] at hx'
            obtain ⟨l, hml, hv⟩ := hx'
            have hkn : knownCells st i ≤ l.tot := known_le hD hq hr hf he hml
            obtain ⟨hes, lo', hi', m, c1, c2⟩ := sliceSlA_ok (P := P) (c := n) hD he hti hl hml (by omega) (fun c' hc' => Option.some.inj hc') (fun hn => nomatch hn) (Nat.le_refl _) (by omega) (Nat.zero_le _) false w
            refine does_value (v := .slice (some (if m = lo' then ⟨l.blk, l.base + off, none⟩ else (⟨l.blk, l.base + off, none⟩ : Addr).add (lo' * ti.size))) (hi' - lo') (m - lo')) (w' := w) (by rw [ho]; rfl) (value_of (s := Instr.sliceAt t (ρ x) (lo.map ρ) (hi.map ρ) (mx.map ρ)) (by simp only [execOp, ho]) ?_) (post_pure hr hf c2)
            simp only [Instr.sliceAt, Instr.sureAddr, Sem.run_bind, d3, hv, Result.andThen_ok, Sem.run_pure, c1, run_size hD w hti]
          · cases h
      · cases h
    · cases h
  -- lookup
  · rename_i t x ix ok ho
    split at h
    · rename_i kt el s1 b1 z1 q1 id k ht hx hix
      split at h
      · rename_i es s2 b2 z2 q2 hat hkt
        split at h
        · rename_i v hl
          simp only [Option.some.injEq] at h; subst h
          exact lookup_does hD hq hr hf he ho ht rfl hkt rfl hx hix hat hl (.inl ⟨v, rfl, rfl⟩)
        · rename_i hl
          split at h
          · rename_i c3 s3 b3 z q3 hel
            simp only [Option.some.injEq] at h; subst h
            exact lookup_does hD hq hr hf he ho ht rfl hkt rfl hx hix hat hl (.inr ⟨rfl, _, z, hel, rfl, rfl⟩)
          · cases h
        · cases h
      · cases h
    · cases h
  -- mapUpdate
  · rename_i t x k v ho
    split at h
    · rename_i kt el s1 b1 z1 q1 ht
      split at h
      · rename_i s2 b2 z2 q2 id kk vv hkt hx hk hv
        cases hw : st.canW id with
        | false => simp [hw] at h
        | true =>
          simp only [hw, cond_true] at h
          split at h
          · rename_i es hat
            split at h
            · rename_i es' hl
              simp only [Option.some.injEq] at h; subst h
              exact mapUpdate_does hD hq hr hf he ho ht rfl hkt rfl hx hk hv hw hat hl
            · cases h
          · cases h
      · cases h
    · cases h
  -- range
  · rename_i t x ho
    split at h
    · rename_i k el s1 b1 z1 q1 id ht hx
      split at h
      · rename_i hat
        simp only [Option.some.injEq] at h; subst h
        exact range_does hD hr hf he ho ht rfl hx hat
      · cases h
    · cases h
  -- next
  · rename_i x ho
    split at h
    · rename_i i hx
      split at h
      · rename_i m hat
        split at h
        · rename_i hm
          simp only [Option.some.injEq] at h; subst h
          exact next_does hr hf he ho hx hat hm
        · cases h
      · cases h
    · cases h
  -- calls
  · rename_i c ho
    have hplain : Op.plain o.op = true := by rw [ho]; rfl
    have hb : ∀ (b : Builtin), c.callee = .builtin b → (execOp ρ o).run P w = (builtin b c.argTypes o.type (c.args.map fun | .const _ => true | _ => false) (c.args.map ρ)).run P w := by
      intro b hc
      simp [execOp, ho, resolve, hc, invoke]
      rfl
    have hargs : ∀ {as : List AV}, evL e c.args.toList = some as → RepL q μ as (c.args.map ρ).toList := fun {as} h => by
      rw [Array.toList_map]; exact evL_ok he h
    have two : ∀ {a x : AV}, evL e c.args.toList = some [a, x] → ∃ va vx, c.args.map ρ = #[va, vx] ∧ Rep q μ a va ∧ Rep q μ x vx := by
      intro a x h2
      have ha := hargs h2
      cases hl : (c.args.map ρ).toList with
      | nil => rw [hl] at ha; simp [RepL] at ha
      | cons va l =>
        rw [hl] at ha
        cases l with
        | nil => simp [RepL] at ha
        | cons vb l =>
          cases l with
          | nil => simp only [RepL] at ha; exact ⟨va, vb, by apply Array.ext'; rw [hl], ha.1, ha.2.1⟩
          | cons _ _ => simp [RepL] at ha
    have onev : ∀ {a : AV}, evL e c.args.toList = some [a] → ∃ va, c.args.map ρ = #[va] ∧ Rep q μ a va := by
      intro a h2
      have ha := hargs h2
      cases hl : (c.args.map ρ).toList with
      | nil => rw [hl] at ha; simp [RepL] at ha
      | cons va l =>
        rw [hl] at ha
        cases l with
        | nil => simp only [RepL] at ha; exact ⟨va, by apply Array.ext'; rw [hl], ha.1⟩
        | cons _ _ => simp [RepL] at ha
    have htys : ∀ {t : TypeId} {ts : List TypeId}, c.argTypes.toList = t :: ts → c.argTypes = (t :: ts).toArray := fun h => by rw [← h]
    split at h
    -- len of a map
    · rename_i id hc hev
      split at h
      · rename_i t ts hts
        split at h
        · rename_i k el s1 b1 z1 q1 es ht hat
          simp only [Option.some.injEq] at h; subst h
          obtain ⟨va, hva, ra⟩ := onev hev
          simp only [Rep] at ra
          obtain ⟨l, hml, rfl⟩ := ra
          obtain ⟨ents, clk, hm, hmr⟩ := map_out hr hat hml
          obtain ⟨d, d1, d2, d3⟩ := run_und hD w ht
          obtain rfl := cls_map d2
          refine does_value hplain (v := goInt ents.size) (w' := w) ?_ (post_pure hr hf (by simp only [Rep, goInt]; have := hmr.length; simp at this; rw [this]))
          rw [hb _ hc, hva, htys hts]
          simp [builtin, Builtin.len_, d3, run_getObj hm]
        · cases h
      · cases h
    -- append
    · rename_i a x hc hev
      split at h
      · rename_i t ts hts
        unfold one at h
        split at h
        · rename_i y hy
          obtain ⟨r, st'⟩ := y
          simp only [Option.some.injEq] at h; subst h
          obtain ⟨va, vx, hvv, ra, rx⟩ := two hev
          obtain ⟨v, w', h1, h2⟩ := append_ok (P := P) (ty := o.type) hD hr hf hy ra rx
          refine does_value hplain (v := v) (w' := w') ?_ h2
          rw [hb _ hc, hvv, htys hts]
          simp [builtin, h1]
        · cases h
      · cases h
    -- copy
    · rename_i a x hc hev
      split at h
      · rename_i t ts hts
        unfold one at h
        split at h
        · rename_i y hy
          obtain ⟨r, st'⟩ := y
          simp only [Option.some.injEq] at h; subst h
          obtain ⟨va, vx, hvv, ra, rx⟩ := two hev
          obtain ⟨v, w', h1, h2, h3, h4, h5, h6⟩ := copy_ok (P := P) (ts := ts) (ty := o.type) hD hr hy ra rx
          refine does_value hplain (v := v) (w' := w') ?_ ⟨r, st', by simp, μ, h2, h3, h4, by rw [h5]; exact hf, h6⟩
          rw [hb _ hc, hvv, htys hts]
          simp [builtin, h1]
        · cases h
      · cases h
    -- cap
    · rename_i id off len es hc hev
      split at h
      · rename_i t ts hts
        split at h
        · rename_i el s1 b1 z1 q1 ht
          obtain ⟨va, hva, ra⟩ := onev hev
          obtain ⟨p, cc, rfl, hpost⟩ := capA_ok hD hq hr hf h ra
          obtain ⟨d, d1, d2, d3⟩ := run_und hD w ht
          obtain rfl := cls_sl d2
          refine does_value hplain (v := goInt cc) (w' := w) ?_ hpost
          rw [hb _ hc, hva, htys hts]
          simp [builtin, Builtin.cap_, d3]
        · cases h
      · cases h
    -- unsafe.String
    · rename_i a k n hc hev
      cases hn : Nat.ble n 1000000 with
      | false => simp [hn] at h
      | true =>
        simp only [hn, cond_true] at h
        obtain ⟨va, vx, hvv, ra, rx⟩ := two hev
        simp only [Rep] at rx; subst rx
        obtain ⟨v, w', h1, h2⟩ := unsafeStr_ok (P := P) (e := e) (ρ := ρ) (ty := o.type) (k := k) hD hq hr hf he h ra (by simpa using hn)
        refine does_value hplain (v := v) (w' := w') ?_ h2
        rw [hb _ hc, hvv]
        have : c.argTypes.toList.toArray = c.argTypes := by simp
        rw [this] at h1
        have h1' : (Builtin.unsafeString_ c.argTypes o.type #[va, .int k (Int.ofNat n)]).run P w = .ok v w' := h1
        simp only [builtin, Sem.run_bind, h1', Result.andThen_ok, Sem.run_pure]
    -- function values
    · rename_i f as hc hev
      have ha := hargs hev
      split at h
      · rename_i k first cap hfv
        have hfr := he f _ hfv
        simp only [Rep] at hfr
        obtain ⟨a', b', hv, ra, rb⟩ := hfr
        have hall : RepL q μ (first ++ as ++ cap) (a' ++ c.args.map ρ ++ b').toList := by
          simp only [Array.toList_append]
          exact RepL.append (RepL.append ra ha) rb
        have hrun : (execOp ρ o).run P w = (callFunc k (a' ++ c.args.map ρ ++ b')).run P w := by
          rw [run_callV ho hc hv]; rfl
        split at h
        · rename_i hk
          refine does_enter hplain (f := k) (args := a' ++ c.args.map ρ ++ b') (w' := w) ?_ (hcf _ _ _ _ h μ w _ hr hf hall)
          rw [hrun]
          exact hent _ _ _ _ hk h _ _
        · rename_i x hk
          exact ext_does hD hq hr hf hE hplain hrun hall h
      · rename_i id hfv
        have hfr := he f _ hfv
        simp only [Rep] at hfr
        obtain ⟨l0, hl0, hv⟩ := hfr
        obtain ⟨lc, rc, r1, r2, r3, r4⟩ := hyl _ _ _ _ h μ w _ l0 hr hf ha hl0
        rw [hl0] at r1
        obtain rfl := Option.some.inj r1
        refine does_round hplain (w' := w) ?_ r4
        rw [run_callV ho hc hv]
        have e1 : #[] ++ c.args.map ρ = c.args.map ρ := by simp
        rw [e1]
        have hgl : (Instr.getLoop l0.blk).run P w = .ok rc w := by simp [Instr.getLoop, getObj, Sem.run, r2]
        simp only [invoke, Instr.yield, Sem.run_bind, hgl, Result.andThen_ok]
        have hne : ¬ ((c.args.map ρ).size ≠ rc.params.size) := by omega
        rw [if_neg hne]
        rfl
      · cases h
    · cases h
  · cases h

end Go.Proofs.YtdkcihleblbkaaaGreatDoor.Eng

/- A verified symbolic executor, part 39: calls whose one slice may move: their outcomes made one. The lemmas hold of every program; no project text. -/
namespace Go.Proofs.YtdkcihleblbkaaaGreatDoor.Eng
set_option linter.unusedVariables false
set_option linter.unusedSimpArgs false
set_option linter.unusedSectionVars false
open Go
set_option linter.unusedSectionVars false
set_option linter.unusedVariables false
set_option linter.unusedSimpArgs false

theorem sameRow_out {nx id n es : Nat} {et : TypeId} {cells : List AV} : ∀ {l : Ret}, sameRow nx id n es et cells l = true → ∀ a s, (a, s) ∈ l →
    ∃ i b0, a = .sl i 0 n none es ∧ (i = id ∨ nx ≤ i) ∧ s.h.at_ i = some (.row et cells true b0 0 false)
  | [], _, a, s, hm => by simp at hm
  | (a0, s0) :: l, h, a, s, hm => by
    unfold sameRow at h
    split at h
    · rename_i heq; simp at heq
    · rename_i i n' es' s' l' heq
      simp only [List.cons.injEq, Prod.mk.injEq] at heq
      obtain ⟨⟨rfl, rfl⟩, rfl⟩ := heq
      simp only [Bool.and_eq_true, Bool.or_eq_true, Nat.ble_eq] at h
      obtain ⟨⟨⟨⟨h1, h2⟩, h5⟩, h3⟩, h4⟩ := h
      have h1 := beq_nat h1
      have h2 := beq_nat h2
      subst h1
      subst h2
      rcases List.mem_cons.1 hm with e | e
      · cases e
        split at h3
        · rename_i et' cells' b0 hat
          simp only [Bool.and_eq_true] at h3
          have h6 := beq_nat h3.1
          have h7 := beqAs_eq _ _ h3.2
          subst h6
          subst h7
          exact ⟨_, b0, rfl, h5.imp (fun h => beq_nat h) _root_.id, hat⟩
        · cases h3
      · exact sameRow_out h4 a s e
    · cases h

theorem callSl_ok {P : Program} {q : Nat} {cf : FuncId → List AV → St → Option Ret} (hcf : CallOk P q cf) : CallOk P q (callSl cf) := by
  intro k args st rets h μ w argsV hr hf ha
  unfold callSl at h
  split at h
  · rename_i id off len es rest
    cases hw : st.canW id with
    | false => simp [hw] at h
    | true =>
      simp only [hw, cond_true] at h
      split at h
      · rename_i rets1 hc
        have hcall := hcf k _ { st with ro := st.nx, wl := [id] } rets1 hc μ w argsV hr hf ha
        refine hcall.mono ?_
        rintro e w' ⟨v, rfl, a, s, hm, μ', hrep, hg, hh, hfr, hk⟩
        refine ⟨v, rfl, ?_⟩
        -- the old id has its place
        have hid : ∃ l, μ id = some l := by
          cases hav : argsV.toList with
          | nil => rw [hav] at ha; simp [RepL] at ha
          | cons va vs => rw [hav] at ha; simp only [RepL, Rep] at ha; obtain ⟨⟨l, c, hl, _⟩, _⟩ := ha; exact ⟨l, hl⟩
        obtain ⟨lid, hlid⟩ := hid
        unfold normSl at h
        split at h
        · rename_i i0 n es0 s0 l0
          split at h
          · rename_i et cells b00 hat0
            cases hs : (freeL cells && sameRow st.nx id n es0 et cells ((.sl i0 0 n none es0, s0) :: l0)) with
            | false => simp [hs] at h
            | true =>
              simp only [hs, cond_true, Option.some.injEq] at h; subst h
              simp only [Bool.and_eq_true] at hs
              obtain ⟨hfree, hsame⟩ := hs
              obtain ⟨i, b0, rfl, hi, hat⟩ := sameRow_out hsame a s hm
              simp only [Rep] at hrep
              obtain ⟨l', c, hl', rfl, c1, _, c3, c4, c5⟩ := hrep
              have c3 := c3 trivial
              obtain ⟨o, ho, hblk⟩ := hh.obj i _ l' hat hl'
              obtain ⟨cc, fr, rfl, k1, k2, k3, k4, k5, k6, k7⟩ := hblk
              have hwr : ∀ b, Wr μ { st with ro := st.nx, wl := [id] } b → b = lid.blk ∧ st.h.at_ id ≠ none := by
                rintro b ⟨id0, l0, g1, g2, g3, rfl⟩
                simp only [St.canW, Bool.or_eq_true, Nat.ble_eq] at g2
                rcases g2 with g2 | g2
                · rw [hf id0 g2] at g3; cases g3
                · simp at g2
                  subst g2
                  rw [hlid] at g3
                  obtain rfl := Option.some.inj g3
                  exact ⟨rfl, g1⟩
              have hwr2 : ∀ b, Wr μ { st with ro := st.nx, wl := [id] } b → Wr μ st b := fun b hb => by
                obtain ⟨rfl, h2⟩ := hwr b hb
                exact ⟨id, lid, h2, hw, hlid, rfl⟩
              have hidlt : id < st.nx := by
                by_cases e : id < st.nx
                · exact e
                · rw [hf id (by omega)] at hlid; cases hlid
              -- where the row lies: in a new block, or in the old one's
              have hplace : w.heap.size ≤ l'.blk ∨ (l'.blk = lid.blk ∧ st.h.at_ id ≠ none) := by
                rcases hi with rfl | hi
                · have e := hg.ext i lid hlid
                  rw [hl'] at e
                  obtain rfl := Option.some.inj e
                  exact .inr ⟨rfl, hg.live i hidlt (by rw [hat]; simp)⟩
                · rcases hg.new i l' hl' (hf i hi) with h | h
                  · exact .inl h
                  · exact .inr (hwr _ h)
              have hext : Ext μ (μ.add st.nx l') := Mu.add_ext (hf _ (Nat.le_refl _))
              have hnx : ((st.kill id).new (.row et cells true false 0 false)).nx = st.nx + 1 := rfl
              have hath : ∀ j, ((st.kill id).new (.row et cells true false 0 false)).h.at_ j = if j = st.nx then some (.row et cells true false 0 false) else if j = id then none else st.h.at_ j := fun j => by
                simp only [St.new, St.kill, T.at_put]
              have hold : ∀ j l2, μ.add st.nx l' j = some l2 → j ≠ st.nx → μ j = some l2 := fun j l2 h e => by
                unfold Mu.add at h; rwa [if_neg e] at h
              have hother : ∀ j l2, st.h.at_ j ≠ none → μ j = some l2 → j ≠ id → l2.blk ≠ l'.blk := fun j l2 h1 h2 h3 e => by
                have hlt := hr.blk_lt h1 h2
                rcases hplace with h | ⟨h, h4⟩
                · omega
                · exact h3 (hr.inj j id l2 lid h1 h4 h2 hlid (by rw [e, h]))
              have hfrm : ∀ b, b < w.heap.size → b ≠ lid.blk → w'.heap[b]? = w.heap[b]? := fun b hb hn => hg.frame b hb fun h => hn (hwr b h).1
              refine ⟨_, _, List.mem_singleton.2 rfl, μ.add st.nx l', ?_, ?_, ?_, fun j hj => by rw [hnx] at hj; exact Mu.add_fresh hf j hj, ⟨rfl, rfl, rfl⟩⟩
              · simp only [Rep]
                exact ⟨l', c, Mu.add_same _ _ _, rfl, c1, (fun _ h => nomatch h), fun _ => c3, c4, c5⟩
              · refine ⟨hext, by rw [hnx]; omega, rfl, rfl, Nat.min_le_left _ _, hg.os, hg.tape, hg.output, hg.size, fun b hb hn => hg.frame b hb fun h => hn (hwr2 b h), fun j l2 h1 h2 => ?_, fun j hj h => ?_, fun j hj h => ?_, fun j hj => by unfold Mu.add; rw [if_neg (by omega)]⟩
                · by_cases e : j = st.nx
                  · subst e
                    rw [Mu.add_same] at h1
                    obtain rfl := Option.some.inj h1
                    rcases hplace with h | ⟨h, h4⟩
                    · exact .inl h
                    · exact .inr ⟨id, lid, h4, hw, hlid, h.symm⟩
                  · rw [hold j l2 h1 e] at h2; cases h2
                · rw [hath, if_neg (by omega)] at h
                  by_cases e : j = id
                  · rw [if_pos e] at h; exact absurd rfl h
                  · rwa [if_neg e] at h
                · have h' : j < min st.mw id := h
                  rw [hath, if_neg (by omega), if_neg (by omega)]
              · refine ⟨fun j b l2 hb hl2 => ?_, fun j j' l1 l2 h1 h2 m1 m2 e => ?_⟩
                · rw [hath] at hb
                  by_cases e : j = st.nx
                  · rw [if_pos e] at hb
                    obtain rfl := Option.some.inj hb
                    subst e
                    rw [Mu.add_same] at hl2
                    obtain rfl := Option.some.inj hl2
                    refine ⟨_, ho, cc, fr, rfl, k1, k2, (fun h => nomatch h), (fun h => nomatch h), fun i a hi => ?_, k6, k7⟩
                    obtain ⟨v, v1, v2⟩ := k5 i a hi
                    refine ⟨v, v1, Rep.of_free a v ?_ v2⟩
                    have : ∀ (l : List AV) (i : Nat), freeL l = true → l[i]? = some a → a.free = true := by
                      intro l
                      induction l with
                      | nil => intro i _ h; simp at h
                      | cons b l ih =>
                        intro i hfr h
                        simp only [freeL, Bool.and_eq_true] at hfr
                        cases i with
                        | zero => simp at h; subst h; exact hfr.1
                        | succ i => exact ih i hfr.2 (by simpa using h)
                    exact this cells i hfree hi
                  · rw [if_neg e] at hb
                    by_cases e2 : j = id
                    · rw [if_pos e2] at hb; cases hb
                    · rw [if_neg e2] at hb
                      have hl3 := hold j l2 hl2 e
                      obtain ⟨o', o1, o2⟩ := hr.obj j b l2 hb hl3
                      refine ⟨o', ?_, o2.mono hext⟩
                      rw [hg.frame _ (hr.blk_lt (by rw [hb]; simp) hl3) fun h => ?_]
                      · exact o1
                      · obtain ⟨g1, g2⟩ := hwr _ h
                        exact e2 (hr.inj j id l2 lid (by rw [hb]; simp) g2 hl3 hlid g1)
                · rw [hath] at h1 h2
                  by_cases ej : j = st.nx
                  · by_cases ej' : j' = st.nx
                    · omega
                    · rw [if_neg ej'] at h2
                      by_cases e2 : j' = id
                      · rw [if_pos e2] at h2; exact absurd rfl h2
                      · rw [if_neg e2] at h2
                        subst ej
                        rw [Mu.add_same] at m1
                        obtain rfl := Option.some.inj m1
                        exact absurd e.symm (hother j' l2 h2 (hold j' l2 m2 ej') e2)
                  · rw [if_neg ej] at h1
                    by_cases e1 : j = id
                    · rw [if_pos e1] at h1; exact absurd rfl h1
                    · rw [if_neg e1] at h1
                      by_cases ej' : j' = st.nx
                      · subst ej'
                        rw [Mu.add_same] at m2
                        obtain rfl := Option.some.inj m2
                        exact absurd e (hother j l1 h1 (hold j l1 m1 ej) e1)
                      · rw [if_neg ej'] at h2
                        by_cases e2 : j' = id
                        · rw [if_pos e2] at h2; exact absurd rfl h2
                        · rw [if_neg e2] at h2
                          exact hr.inj j j' l1 l2 h1 h2 (hold j l1 m1 ej) (hold j' l2 m2 ej') e
          · cases h
        · cases h
      · cases h
  · exact hcf k _ st rets h μ w argsV hr hf ha

end Go.Proofs.YtdkcihleblbkaaaGreatDoor.Eng

/- A verified symbolic executor, part 40: the executor of a whole program out of its tables, and that it is sound. No project text. -/
namespace Go.Proofs.YtdkcihleblbkaaaGreatDoor.Eng
set_option linter.unusedVariables false
set_option linter.unusedSimpArgs false
set_option linter.unusedSectionVars false
open Go

/-- A program's tables. -/
structure Tb where
  D : T TI
  F : T Func
  bt : TypeId
  more : FuncId
  ins : FuncId
  ext : FuncId → Nat
  fuel : Nat

def Tb.cx (g : Tb) (cf : FuncId → List AV → St → Option Ret) (yl : Nat → List AV → St → Option Ret) : Cx := ⟨g.D.at_, g.bt, g.ext, cf, yl⟩

def Tb.x (g : Tb) (cf : FuncId → List AV → St → Option Ret) (yl : Nat → List AV → St → Option Ret) (f : FuncId) : X :=
  { op := opA (g.cx cf yl), drawn := fun ops st => drawnA (pureA g.D.at_) (heapA (g.cx cf yl)) ops st, rng := fun gg ps a b st => rngA cf f gg ps a b st, fuel := g.fuel }

def Tb.xr (g : Tb) (cf : FuncId → List AV → St → Option Ret) (yl : Nat → List AV → St → Option Ret) : X :=
  { op := opA (g.cx cf yl), drawn := fun ops st => drawnA (pureA g.D.at_) (heapA (g.cx cf yl)) ops st, rng := fun _ _ _ _ _ => none, fuel := g.fuel }

def Tb.body (g : Tb) (cf : FuncId → List AV → St → Option Ret) (yl : Nat → List AV → St → Option Ret) (k : FuncId) (args : List AV) (st : St) : Option Ret :=
  match g.F.at_ k with
  | none => none
  | some fn => match fn.body with
    | none => none
    | some c => runBody (resA g.D.at_) (exec (g.x cf yl k) c) fn args st

/-- the arguments of the one function that is told by what is proved of it elsewhere: a number of 32 bits, a string -/
def moreArgs : List AV → Bool
  | [c, s] => (match bnd c, lenS s with
    | some (.u32, lo, hi), some p => decide (0 ≤ lo) && decide (hi ≤ 4294967295) && Nat.ble p.2 9223372036854775807
    | _, _ => false)
  | _ => false

def Tb.both (g : Tb) : Nat → (FuncId → List AV → St → Option Ret) × (Nat → List AV → St → Option Ret)
  | 0 => (fun _ _ _ => none, fun _ _ _ => none)
  | d + 1 => (fun k args st => bif Nat.beq k g.more then (bif moreArgs args then some [(.aint .u32 0 4294967295, st)] else none) else
      bif Nat.beq k g.ins then callSl (g.body (g.both d).1 (g.both d).2) k args st else g.body (g.both d).1 (g.both d).2 k args st,
    fun id args st => roundA (fun _ c st => exec (g.xr (g.both d).1 (g.both d).2) c st) id args st)

/-- What is asked of the tables. -/
structure TbOk (P : Program) (g : Tb) : Prop where
  D : DOk P g.D.at_
  ext : ExtOk P g.D.at_ g.bt g.ext
  F : ∀ k fn, g.F.at_ k = some fn → P.funcs[k]? = some fn ∧ Enters P k
  drawn : P.follows .mixedOrders = true
  menter : Enters P g.more
  more : ∀ (c : Int) (s : ByteArray) (w : World), 0 ≤ c → c ≤ 4294967295 → s.size ≤ 9223372036854775807 → Calls P g.more #[.int .u32 c, .string s] w fun e w' => ∃ r : Int, e = .returned (.int .u32 r) ∧ 0 ≤ r ∧ r ≤ 4294967295 ∧
    w'.os = w.os ∧ w'.tape = w.tape ∧ w'.output = w.output ∧ w.heap.size ≤ w'.heap.size ∧ ∀ b, b < w.heap.size → w'.heap[b]? = w.heap[b]?

theorem opA_ok {P : Program} {q : Nat} (hq : q < 8) {cx : Cx} (hD : DOk P cx.D) (hE : ExtOk P cx.D cx.bt cx.ext) (hcf : CallOk P q cx.cf) (hent : ∀ k args st rets, cx.ext k = 0 → cx.cf k args st = some rets → Enters P k) (hyl : YlOk P q cx.yl) : OpOk P q (opA cx) := by
  intro st e o rets h μ w ρ hr hf he
  unfold opA at h
  split at h
  · rename_i a ha
    simp only [Option.some.injEq] at h; subst h
    exact (pureA_prok hD hq e o a ha μ w ρ he).mono fun v w' ⟨h1, h2⟩ => by subst h1; exact post_pure hr hf h2
  · exact heapA_ok hq hD hE hcf hent hyl st e o rets h μ w ρ hr hf he

/-- the heap as it was, beside new blocks -/
theorem post_beside {q : Nat} {μ : Mu} {st : St} {w w' : World} {a : AV} {v : Value} (hr : HRep q μ st.h w) (hf : ∀ id, st.nx ≤ id → μ id = none) (h1 : w'.os = w.os) (h2 : w'.tape = w.tape) (h3 : w'.output = w.output) (h4 : w.heap.size ≤ w'.heap.size)
    (h5 : ∀ b, b < w.heap.size → w'.heap[b]? = w.heap[b]?) (h : Rep q μ a v) : Post q μ st w [(a, st)] v w' :=
  ⟨a, st, by simp, μ, h, ⟨Ext.refl _, Nat.le_refl _, rfl, rfl, Nat.le_refl _, h1, h2, h3, h4, fun b hb _ => h5 b hb, (fun _ _ h h' => by simp [h'] at h), fun _ _ h => h, fun _ _ _ => rfl, fun _ _ => rfl⟩,
    ⟨fun id b l hb hl => by obtain ⟨o, o1, o2⟩ := hr.obj id b l hb hl; exact ⟨o, by rw [h5 _ (hr.blk_lt (by rw [hb]; simp) hl)]; exact o1, o2⟩, hr.inj⟩, hf, ⟨rfl, rfl, rfl⟩⟩

theorem both_ok {P : Program} {g : Tb} (hg : TbOk P g) {q : Nat} (hq : q < 8) : ∀ d, CallOk P q (g.both d).1 ∧ (∀ k args st rets, (g.both d).1 k args st = some rets → Enters P k) ∧ YlOk P q (g.both d).2
  | 0 => ⟨fun k args st rets h => by simp [Tb.both] at h, fun k args st rets h => by simp [Tb.both] at h, fun id args st rets h => by simp [Tb.both] at h⟩
  | d + 1 => by
    obtain ⟨i1, i2, i3⟩ := both_ok hg hq d
    have hop : OpOk P q (opA (g.cx (g.both d).1 (g.both d).2)) := opA_ok hq hg.D hg.ext i1 (fun k args st rets _ h => i2 k args st rets h) i3
    have hhp : OpOk P q (heapA (g.cx (g.both d).1 (g.both d).2)) := heapA_ok hq hg.D hg.ext i1 (fun k args st rets _ h => i2 k args st rets h) i3
    have hdr : ∀ f r ops st ss, drawnA (pureA g.D.at_) (heapA (g.cx (g.both d).1 (g.both d).2)) ops st = some ss → ∀ id, CodeOk P q f r (.region id ops true) st (ss.map fun s => (Jump.normal, s)) :=
      fun f r ops st ss h id => drawn_ok hg.drawn (pureA_prok hg.D hq) hhp (pureA_cong _) (fun st => heapA_cong _ st) h f r id
    have hx : ∀ f, XOk P q f none (g.x (g.both d).1 (g.both d).2 f) := fun f => ⟨hop, hdr f none, fun gg ps asg body st o h => rng_ok i1 i2 h⟩
    have hxr : ∀ f r, XOk P q f (some r) (g.xr (g.both d).1 (g.both d).2) := fun f r => ⟨hop, hdr f (some r), fun gg ps asg body st o h => by simp [Tb.xr] at h⟩
    have hbody : CallOk P q (g.body (g.both d).1 (g.both d).2) := by
      intro k args st rets h μ w argsV hr hf ha
      unfold Tb.body at h
      split at h
      · cases h
      · rename_i fn hfn
        split at h
        · cases h
        · rename_i c hc
          exact runBody_ok (resA_ok hg.D hq) (hg.F k fn hfn).1 hc (fun s o ho => exec_ok (hx k) c s o ho) h hr hf ha
    have hbent : ∀ k args st rets, g.body (g.both d).1 (g.both d).2 k args st = some rets → Enters P k := by
      intro k args st rets h
      unfold Tb.body at h
      split at h
      · cases h
      · rename_i fn hfn
        exact (hg.F k fn hfn).2
    have hslent : ∀ k args st rets, callSl (g.body (g.both d).1 (g.both d).2) k args st = some rets → Enters P k := by
      intro k args st rets h
      unfold callSl at h
      split at h
      · rename_i id off len es rest
        cases hw : st.canW id with
        | false => simp [hw] at h
        | true =>
          simp only [hw, cond_true] at h
          split at h
          · rename_i r1 h1; exact hbent _ _ _ _ h1
          · cases h
      · exact hbent _ _ _ _ h
    refine ⟨?_, ?_, ?_⟩
    · intro k args st rets h
      simp only [Tb.both] at h
      cases hm : Nat.beq k g.more with
      | true =>
        have hm := beq_nat hm
        subst hm
        simp only [Nat.beq_refl, cond_true] at h
        cases ham : moreArgs args with
        | false => simp [ham] at h
        | true =>
          simp only [ham, cond_true, Option.some.injEq] at h; subst h
          intro μ w argsV hr hf ha
          unfold moreArgs at ham
          split at ham
          · rename_i c s
            split at ham
            · rename_i lo hi p hb hs
              simp only [Bool.and_eq_true, decide_eq_true_eq] at ham
              obtain ⟨l1, h1⟩ := p
              cases hl : argsV.toList with
              | nil => rw [hl] at ha; simp [RepL] at ha
              | cons vc vl =>
                rw [hl] at ha
                cases vl with
                | nil => simp [RepL] at ha
                | cons vs vl =>
                  cases vl with
                  | cons _ _ => simp [RepL] at ha
                  | nil =>
                    simp only [RepL] at ha
                    obtain ⟨n, rfl, n1, n2⟩ := bnd_ok hq hb ha.1
                    obtain ⟨sb, rfl, _, hsz⟩ := lenS_ok hs ha.2.1
                    have hle := Nat.le_of_ble_eq_true ham.2
                    have : argsV = #[.int .u32 n, .string sb] := by apply Array.ext'; rw [hl]
                    subst this
                    refine (hg.more n sb w (by omega) (by omega) (by omega)).mono ?_
                    rintro e w' ⟨r, rfl, r1, r2, r3, r4, r5, r6, r7⟩
                    exact ⟨_, rfl, post_beside hr hf r3 r4 r5 r6 r7 (by simp only [Rep]; exact ⟨r, rfl, r1, r2⟩)⟩
            · cases ham
          · cases ham
      | false =>
        simp only [hm, cond_false] at h
        cases hi : Nat.beq k g.ins with
        | true => simp only [hi, cond_true] at h; exact callSl_ok hbody k args st rets h
        | false => simp only [hi, cond_false] at h; exact hbody k args st rets h
    · intro k args st rets h
      simp only [Tb.both] at h
      cases hm : Nat.beq k g.more with
      | true =>
        have hm := beq_nat hm
        subst hm
        exact hg.menter
      | false =>
        simp only [hm, cond_false] at h
        cases hi : Nat.beq k g.ins with
        | true => simp only [hi, cond_true] at h; exact hslent k args st rets h
        | false => simp only [hi, cond_false] at h; exact hbent k args st rets h
    · intro id args st rets h μ w argsV l0 hr hf ha hl0
      exact round_ok (exr := fun _ c st => exec (g.xr (g.both d).1 (g.both d).2) c st) (fun f r c s o ho => exec_ok (hxr f r) c s o ho) h hr hf ha hl0

end Go.Proofs.YtdkcihleblbkaaaGreatDoor.Eng
