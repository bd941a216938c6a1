/- A VERIFIED SYMBOLIC EXECUTOR, PARTS 1 TO 8. Lemmas that hold of every program. -/
import Derived.Calls
import Derived.KernelRfl
import Derived.OwnWalk
import GoSem.Dispatch
/- A verified symbolic executor, part 1: abstract values, what they stand for, tries. The lemmas hold of every program; no project text. -/
namespace Go.Proofs.YtdkcihleblbkaaaGreatDoor.Eng
set_option linter.unusedVariables false
set_option linter.unusedSimpArgs false
set_option linter.unusedSectionVars false
open Go

theorem beqf {n m : Nat} (h : ¬ n = m) : Nat.beq n m = false := by
  cases e : Nat.beq n m with
  | false => rfl
  | true => exact absurd (Nat.eq_of_beq_eq_true e) h

/-! ### Tries with natural keys -/
inductive T (α : Type) where
  | leaf
  | node (l : T α) (v : Option α) (r : T α)

namespace T
variable {α : Type}
/-- key n, n ≥ 1 -/
def get : T α → Nat → Option α
  | .leaf, _ => none
  | .node l v r, n => bif Nat.beq n 1 then v else bif Nat.beq (Nat.mod n 2) 0 then get l (Nat.div n 2) else get r (Nat.div n 2)

/-- the tree's head comes out ahead of what is done with it (for the kernel's sake) -/
def seq {β : Type} (t : T α) (k : T α → β) : β := match t with | .leaf => k .leaf | .node l v r => k (.node l v r)
theorem seq_eq {β : Type} (t : T α) (k : T α → β) : t.seq k = k t := by cases t <;> rfl

def set : Nat → T α → Nat → Option α → T α
  | 0, t, _, _ => t
  | f + 1, t, n, x =>
    match t with
    | .leaf => bif Nat.beq n 1 then .node .leaf x .leaf else bif Nat.beq (Nat.mod n 2) 0 then (set f .leaf (Nat.div n 2) x).seq fun l => .node l none .leaf else (set f .leaf (Nat.div n 2) x).seq fun r => .node .leaf none r
    | .node l v r => bif Nat.beq n 1 then .node l x r else bif Nat.beq (Nat.mod n 2) 0 then (set f l (Nat.div n 2) x).seq fun l' => .node l' v r else (set f r (Nat.div n 2) x).seq fun r' => .node l v r'

theorem get_set : ∀ (f : Nat) (t : T α) (n m : Nat) (x : Option α), 1 ≤ n → n ≤ f → 1 ≤ m → (set f t n x).get m = if m = n then x else t.get m := by
  intro f
  induction f with
  | zero => intro t n m x h1 h2; omega
  | succ f ih =>
    intro t n m x h1 h2 hm
    by_cases hn1 : n = 1
    · subst hn1
      cases t with
      | leaf =>
        by_cases e : m = 1
        · subst e; simp [set, get]
        · have : Nat.beq m 1 = false := beqf e
          simp [set, get, this, e]
      | node l v r =>
        by_cases e : m = 1
        · subst e; simp [set, get]
        · have : Nat.beq m 1 = false := beqf e
          simp [set, get, this, e]
    · have hb : Nat.beq n 1 = false := beqf hn1
      have hd : Nat.div n 2 = n / 2 := rfl
      have hmd : Nat.mod n 2 = n % 2 := rfl
      have hmd' : Nat.mod m 2 = m % 2 := rfl
      have hdd : Nat.div m 2 = m / 2 := rfl
      by_cases e : m = 1
      · subst e
        have hne : ¬ (1 = n) := fun h => hn1 h.symm
        rw [if_neg hne]
        cases t with
        | leaf =>
          by_cases hp : Nat.beq (Nat.mod n 2) 0 = true
          · simp [set, hb, hp, seq_eq, get]
          · simp only [Bool.not_eq_true] at hp; simp [set, hb, hp, seq_eq, get]
        | node l v r =>
          by_cases hp : Nat.beq (Nat.mod n 2) 0 = true
          · simp [set, hb, hp, seq_eq, get]
          · simp only [Bool.not_eq_true] at hp; simp [set, hb, hp, seq_eq, get]
      · have hbm : Nat.beq m 1 = false := beqf e
        by_cases hp : n % 2 = 0
        · have hpb : Nat.beq (Nat.mod n 2) 0 = true := by rw [hmd, hp]; rfl
          by_cases hq : m % 2 = 0
          · have hqb : Nat.beq (Nat.mod m 2) 0 = true := by rw [hmd', hq]; rfl
            have key : (m = n) ↔ (m / 2 = n / 2) := by omega
            cases t with
            | leaf =>
              simp only [set, hb, hpb, cond_false, cond_true, seq_eq, get, hbm, hqb]
              rw [ih _ _ _ _ (by rw [hd]; omega) (by rw [hd]; omega) (by rw [hdd]; omega), hd, hdd]
              by_cases h : m / 2 = n / 2
              · rw [if_pos h, if_pos (key.2 h)]
              · rw [if_neg h, if_neg (fun h' => h (key.1 h'))]; rfl
            | node l v r =>
              simp only [set, hb, hpb, cond_false, cond_true, seq_eq, get, hbm, hqb]
              rw [ih _ _ _ _ (by rw [hd]; omega) (by rw [hd]; omega) (by rw [hdd]; omega), hd, hdd]
              by_cases h : m / 2 = n / 2
              · rw [if_pos h, if_pos (key.2 h)]
              · rw [if_neg h, if_neg (fun h' => h (key.1 h'))]
          · have hqb : Nat.beq (Nat.mod m 2) 0 = false := by rw [hmd']; exact beqf hq
            have hne : ¬ (m = n) := by intro h; subst h; exact hq hp
            rw [if_neg hne]
            cases t <;> simp [set, hb, hpb, seq_eq, get, hbm, hqb]
        · have hpb : Nat.beq (Nat.mod n 2) 0 = false := by rw [hmd]; exact beqf hp
          by_cases hq : m % 2 = 0
          · have hqb : Nat.beq (Nat.mod m 2) 0 = true := by rw [hmd', hq]; rfl
            have hne : ¬ (m = n) := by intro h; subst h; exact hp hq
            rw [if_neg hne]
            cases t <;> simp [set, hb, hpb, seq_eq, get, hbm, hqb]
          · have hqb : Nat.beq (Nat.mod m 2) 0 = false := by rw [hmd']; exact beqf hq
            have key : (m = n) ↔ (m / 2 = n / 2) := by omega
            cases t with
            | leaf =>
              simp only [set, hb, hpb, cond_false, seq_eq, get, hbm, hqb]
              rw [ih _ _ _ _ (by rw [hd]; omega) (by rw [hd]; omega) (by rw [hdd]; omega), hd, hdd]
              by_cases h : m / 2 = n / 2
              · rw [if_pos h, if_pos (key.2 h)]
              · rw [if_neg h, if_neg (fun h' => h (key.1 h'))]; rfl
            | node l v r =>
              simp only [set, hb, hpb, cond_false, seq_eq, get, hbm, hqb]
              rw [ih _ _ _ _ (by rw [hd]; omega) (by rw [hd]; omega) (by rw [hdd]; omega), hd, hdd]
              by_cases h : m / 2 = n / 2
              · rw [if_pos h, if_pos (key.2 h)]
              · rw [if_neg h, if_neg (fun h' => h (key.1 h'))]

/-- at index i (from 0 on) -/
def at_ (t : T α) (i : Nat) : Option α := t.get (i + 1)
def put (t : T α) (i : Nat) (x : Option α) : T α := t.set (i + 1) (i + 1) x
theorem at_put (t : T α) (i j : Nat) (x : Option α) : (t.put i x).at_ j = if j = i then x else t.at_ j := by
  unfold put at_
  rw [T.get_set _ _ _ _ _ (by omega) (Nat.le_refl _) (by omega)]
  by_cases h : j = i
  · rw [if_pos h, if_pos (by omega)]
  · rw [if_neg h, if_neg (by omega)]
theorem at_leaf (i : Nat) : (T.leaf : T α).at_ i = none := rfl
end T

/-! ### Abstract values -/
inductive AV where
  | any
  | bool (b : Bool)
  | ubool
  | int (k : IntKind) (n : Int)
  | aint (k : IntKind) (lo hi : Int)
  | intq (k : IntKind) (c : Int)
  | str (s : List Nat)
  | astr (lo hi : Nat)
  | ptr0
  | ptr (id off : Nat)
  | sl0
  | sl (id off len : Nat) (cap : Option Nat) (es : Nat)
  | map0
  | map (id : Nat)
  | fn (f : FuncId) (first captured : List AV)
  | yld (id : Nat)
  | fn0
  | ifc (t : TypeId) (v : AV)
  | ifc0
  | ifq (j : Nat) (a b : AV)
  | ptrq (id off : Nat)
  | agg (l : List AV)
  | tup (l : List AV)
  deriving Inhabited

/-- where an id's object lies: its block, the first of its cells, how many there are -/
structure Loc where
  blk : Nat
  base : Nat
  tot : Nat

abbrev Mu := Nat → Option Loc

/-- one byte: below 256 it is that byte; 256: the digit q; else any -/
def ByteR (q : Nat) (n : Nat) (c : UInt8) : Prop := (n < 256 → c.toNat = n) ∧ (n = 256 → c.toNat = 48 + q)
def BytesR (q : Nat) : List Nat → List UInt8 → Prop
  | [], [] => True
  | n :: s, c :: l => ByteR q n c ∧ BytesR q s l
  | _, _ => False

mutual
def Rep (q : Nat) (μ : Mu) : AV → Value → Prop
  | .any, _ => True
  | .bool b, v => v = .bool b
  | .ubool, v => ∃ b, v = .bool b
  | .int k n, v => v = .int k n
  | .aint k lo hi, v => ∃ n, v = .int k n ∧ lo ≤ n ∧ n ≤ hi
  | .intq k c, v => v = .int k ((q : Int) + c)
  | .str s, v => ∃ b : ByteArray, v = .string b ∧ BytesR q s b.data.toList
  | .astr lo hi, v => ∃ b : ByteArray, v = .string b ∧ lo ≤ b.size ∧ b.size ≤ hi
  | .ptr0, v => v = .pointer none
  | .ptr id off, v => ∃ l, μ id = some l ∧ v = .pointer (some ⟨l.blk, l.base + off, none⟩)
  | .sl0, v => v = .slice none 0 0
  | .sl id off len cap es, v => ∃ l c, μ id = some l ∧ v = .slice (some ⟨l.blk, l.base + off, none⟩) len c ∧ off + c * es ≤ l.tot ∧ (∀ c', cap = some c' → c = c') ∧ (cap = none → off + c * es = l.tot) ∧ len ≤ c ∧ c < 9223372036854775808
  | .map0, v => v = .map none
  | .map id, v => ∃ l, μ id = some l ∧ v = .map (some l.blk)
  | .fn f a b, v => ∃ a' b' : Array Value, v = .func (.func f) a' b' ∧ RepL q μ a a'.toList ∧ RepL q μ b b'.toList
  | .yld id, v => ∃ l, μ id = some l ∧ v = .func (.yield l.blk) #[] #[]
  | .fn0, v => v = .nilFunc
  | .ifc t a, v => ∃ x, v = .iface t x ∧ Rep q μ a x
  | .ifc0, v => v = .nilIface
  | .ifq j a b, v => (q = j → Rep q μ a v) ∧ (q ≠ j → Rep q μ b v)
  | .ptrq id off, v => ∃ l, μ id = some l ∧ v = .pointer (some ⟨l.blk, l.base + off + q, none⟩)
  | .agg l, v => ∃ vs : Array Value, v = .agg vs ∧ RepL q μ l vs.toList
  | .tup l, v => ∃ vs : Array Value, v = .tuple vs ∧ RepL q μ l vs.toList
def RepL (q : Nat) (μ : Mu) : List AV → List Value → Prop
  | [], [] => True
  | a :: l, v :: vs => Rep q μ a v ∧ RepL q μ l vs
  | _, _ => False
end

def Ext (μ μ' : Mu) : Prop := ∀ id l, μ id = some l → μ' id = some l
theorem Ext.refl (μ : Mu) : Ext μ μ := fun _ _ h => h
theorem Ext.trans {a b c : Mu} (h : Ext a b) (k : Ext b c) : Ext a c := fun id l x => k id l (h id l x)

mutual
theorem Rep.mono {q : Nat} {μ μ' : Mu} (h : Ext μ μ') : ∀ (a : AV) (v : Value), Rep q μ a v → Rep q μ' a v
  | .any, _, _ => by simp [Rep]
  | .bool _, _, r => by simpa [Rep] using r
  | .ubool, _, r => by simpa [Rep] using r
  | .int _ _, _, r => by simpa [Rep] using r
  | .aint _ _ _, _, r => by simpa [Rep] using r
  | .intq _ _, _, r => by simpa [Rep] using r
  | .str _, _, r => by simpa [Rep] using r
  | .astr _ _, _, r => by simpa [Rep] using r
  | .ptr0, _, r => by simpa [Rep] using r
  | .ptr id off, v, r => by
    simp only [Rep] at r ⊢
    obtain ⟨l, hl, hv⟩ := r
    exact ⟨l, h _ _ hl, hv⟩
  | .sl0, _, r => by simpa [Rep] using r
  | .sl id off len cap es, v, r => by
    simp only [Rep] at r ⊢
    obtain ⟨l, c, hl, hv⟩ := r
    exact ⟨l, c, h _ _ hl, hv⟩
  | .map0, _, r => by simpa [Rep] using r
  | .map id, v, r => by
    simp only [Rep] at r ⊢
    obtain ⟨l, hl, hv⟩ := r
    exact ⟨l, h _ _ hl, hv⟩
  | .fn f a b, v, r => by
    simp only [Rep] at r ⊢
    obtain ⟨a', b', hv, ha, hb⟩ := r
    exact ⟨a', b', hv, RepL.mono h a _ ha, RepL.mono h b _ hb⟩
  | .yld id, v, r => by
    simp only [Rep] at r ⊢
    obtain ⟨l, hl, hv⟩ := r
    exact ⟨l, h _ _ hl, hv⟩
  | .fn0, _, r => by simpa [Rep] using r
  | .ifc t a, v, r => by
    simp only [Rep] at r ⊢
    obtain ⟨x, hv, hx⟩ := r
    exact ⟨x, hv, Rep.mono h a x hx⟩
  | .ifc0, _, r => by simpa [Rep] using r
  | .ifq j a b, v, r => by
    simp only [Rep] at r ⊢
    exact ⟨fun e => Rep.mono h a v (r.1 e), fun e => Rep.mono h b v (r.2 e)⟩
  | .ptrq id off, v, r => by
    simp only [Rep] at r ⊢
    obtain ⟨l, hl, hv⟩ := r
    exact ⟨l, h _ _ hl, hv⟩
  | .agg l, v, r => by
    simp only [Rep] at r ⊢
    obtain ⟨vs, hv, hx⟩ := r
    exact ⟨vs, hv, RepL.mono h l _ hx⟩
  | .tup l, v, r => by
    simp only [Rep] at r ⊢
    obtain ⟨vs, hv, hx⟩ := r
    exact ⟨vs, hv, RepL.mono h l _ hx⟩
theorem RepL.mono {q : Nat} {μ μ' : Mu} (h : Ext μ μ') : ∀ (a : List AV) (v : List Value), RepL q μ a v → RepL q μ' a v
  | [], [], _ => by simp [RepL]
  | a :: l, v :: vs, r => by
    simp only [RepL] at r ⊢
    exact ⟨Rep.mono h a v r.1, RepL.mono h l vs r.2⟩
  | [], _ :: _, r => by simp [RepL] at r
  | _ :: _, [], r => by simp [RepL] at r
end

theorem RepL.length {q : Nat} {μ : Mu} : ∀ {a : List AV} {v : List Value}, RepL q μ a v → a.length = v.length
  | [], [], _ => rfl
  | _ :: l, _ :: vs, r => by
    simp only [RepL] at r
    simp [RepL.length r.2]
  | [], _ :: _, r => by simp [RepL] at r
  | _ :: _, [], r => by simp [RepL] at r

theorem RepL.get {q : Nat} {μ : Mu} : ∀ {a : List AV} {v : List Value}, RepL q μ a v → ∀ (i : Nat) (x : AV), a[i]? = some x → ∃ y, v[i]? = some y ∧ Rep q μ x y
  | [], [], _, i, x, hx => by simp at hx
  | a :: l, v :: vs, r, i, x, hx => by
    simp only [RepL] at r
    cases i with
    | zero => simp at hx; subst hx; exact ⟨v, by simp, r.1⟩
    | succ i => simp at hx; obtain ⟨y, h1, h2⟩ := RepL.get r.2 i x hx; exact ⟨y, by simpa using h1, h2⟩
  | [], _ :: _, r, _, _, _ => by simp [RepL] at r
  | _ :: _, [], r, _, _, _ => by simp [RepL] at r

theorem RepL.of_get {q : Nat} {μ : Mu} : ∀ {a : List AV} {v : List Value}, a.length = v.length → (∀ (i : Nat) (x : AV) (y : Value), a[i]? = some x → v[i]? = some y → Rep q μ x y) → RepL q μ a v
  | [], [], _, _ => by simp [RepL]
  | a :: l, v :: vs, hl, h => by
    simp only [RepL]
    exact ⟨h 0 a v (by simp) (by simp), RepL.of_get (by simpa using hl) fun i x y hx hy => h (i + 1) x y (by simpa using hx) (by simpa using hy)⟩
  | [], _ :: _, hl, _ => by simp at hl
  | _ :: _, [], hl, _ => by simp at hl

theorem RepL.append {q : Nat} {μ : Mu} : ∀ {a : List AV} {v : List Value} {b : List AV} {u : List Value}, RepL q μ a v → RepL q μ b u → RepL q μ (a ++ b) (v ++ u)
  | [], [], _, _, _, h => h
  | a :: l, v :: vs, _, _, r, h => by
    simp only [RepL, List.cons_append] at r ⊢
    exact ⟨r.1, RepL.append r.2 h⟩
  | [], _ :: _, _, _, r, _ => by simp [RepL] at r
  | _ :: _, [], _, _, r, _ => by simp [RepL] at r

theorem BytesR.length {q : Nat} : ∀ {s : List Nat} {l : List UInt8}, BytesR q s l → s.length = l.length
  | [], [], _ => rfl
  | _ :: s, _ :: l, h => by simp only [BytesR] at h; simp [BytesR.length h.2]
  | [], _ :: _, h => by simp [BytesR] at h
  | _ :: _, [], h => by simp [BytesR] at h

theorem BytesR.append {q : Nat} : ∀ {s : List Nat} {l : List UInt8} {s' : List Nat} {l' : List UInt8}, BytesR q s l → BytesR q s' l' → BytesR q (s ++ s') (l ++ l')
  | [], [], _, _, _, h => h
  | _ :: s, _ :: l, _, _, r, h => by simp only [BytesR, List.cons_append] at r ⊢; exact ⟨r.1, BytesR.append r.2 h⟩
  | [], _ :: _, _, _, r, _ => by simp [BytesR] at r
  | _ :: _, [], _, _, r, _ => by simp [BytesR] at r

theorem BytesR.drop {q : Nat} : ∀ (n : Nat) {s : List Nat} {l : List UInt8}, BytesR q s l → BytesR q (s.drop n) (l.drop n)
  | 0, _, _, h => by simpa using h
  | n + 1, [], [], _ => by simp [BytesR]
  | n + 1, _ :: s, _ :: l, h => by simp only [BytesR] at h; simpa using BytesR.drop n h.2
  | _ + 1, [], _ :: _, h => by simp [BytesR] at h
  | _ + 1, _ :: _, [], h => by simp [BytesR] at h

theorem BytesR.take {q : Nat} : ∀ (n : Nat) {s : List Nat} {l : List UInt8}, BytesR q s l → BytesR q (s.take n) (l.take n)
  | 0, _, _, _ => by simp [BytesR]
  | n + 1, [], [], _ => by simp [BytesR]
  | n + 1, _ :: s, _ :: l, h => by simp only [BytesR] at h; simp only [List.take_succ_cons, BytesR]; exact ⟨h.1, BytesR.take n h.2⟩
  | _ + 1, [], _ :: _, h => by simp [BytesR] at h
  | _ + 1, _ :: _, [], h => by simp [BytesR] at h

theorem BytesR.get {q : Nat} : ∀ {s : List Nat} {l : List UInt8}, BytesR q s l → ∀ (i : Nat) (n : Nat), s[i]? = some n → ∃ c, l[i]? = some c ∧ ByteR q n c
  | [], [], _, i, n, h => by simp at h
  | m :: s, c :: l, r, i, n, h => by
    simp only [BytesR] at r
    cases i with
    | zero => simp at h; subst h; exact ⟨c, by simp, r.1⟩
    | succ i => simp at h; obtain ⟨c', h1, h2⟩ := BytesR.get r.2 i n h; exact ⟨c', by simpa using h1, h2⟩
  | [], _ :: _, r, _, _, _ => by simp [BytesR] at r
  | _ :: _, [], r, _, _, _ => by simp [BytesR] at r

theorem ByteR.of_lit (q : Nat) (c : UInt8) : ByteR q c.toNat c := ⟨fun _ => rfl, fun h => by have := c.toNat_lt; omega⟩
theorem BytesR.of_lit (q : Nat) : ∀ l : List UInt8, BytesR q (l.map UInt8.toNat) l
  | [] => by simp [BytesR]
  | c :: l => by simp only [List.map_cons, BytesR]; exact ⟨ByteR.of_lit q c, BytesR.of_lit q l⟩

end Go.Proofs.YtdkcihleblbkaaaGreatDoor.Eng

/- A verified symbolic executor, part 2: the abstract heap and state, what they stand for, what a step may turn. The lemmas hold of every program; no project text. -/
namespace Go.Proofs.YtdkcihleblbkaaaGreatDoor.Eng
set_option linter.unusedVariables false
set_option linter.unusedSimpArgs false
set_option linter.unusedSectionVars false
open Go

inductive Jump where
  | normal
  | exit (id : Nat)
  | ret
  deriving DecidableEq

def Jump.code : Jump → Option Code
  | .normal => none
  | .exit id => some (.exit id)
  | .ret => some .ret

inductive ABlk where
  | row (et : TypeId) (cells : List AV) (opn b0 : Bool) (fz : Nat) (sm : Bool)
  | map (es : List (AV × AV))
  | iter (m : Nat)
  | loop (f : FuncId) (n : Nat) (tm : T AV) (params : List Nat) (asg body : Code) (st : LoopState) (pend : Jump) (dfr : Nat)
  | dfr (there : Bool)

def undefA : AV := .tup []

def TmpR (q : Nat) (μ : Mu) (tm : T AV) (tmps : Array Value) : Prop := ∀ (i : Nat) (v : Value), tmps[i]? = some v → Rep q μ ((tm.at_ i).getD undefA) v

def RowR (q : Nat) (μ : Mu) (c : Array Value) (base : Nat) (cells : List AV) : Prop := ∀ (i : Nat) (a : AV), cells[i]? = some a → ∃ v, c[base + i]? = some v ∧ Rep q μ a v

def MapR (q : Nat) (μ : Mu) : List (AV × AV) → List MapEntry → Prop
  | [], [] => True
  | a :: l, e :: es => Rep q μ a.1 e.key ∧ Rep q μ a.2 e.val ∧ MapR q μ l es
  | _, _ => False

def Blk (q : Nat) (μ : Mu) : ABlk → Loc → Obj → Prop
  | .row et cells opn b0 fz sm, l, o => ∃ (c : Array Value) (fr : Nat × Nat), o = .cells c et fr ∧ c.size = l.base + l.tot ∧ cells.length ≤ l.tot ∧ (opn = false → l.tot = cells.length) ∧ (b0 = true → l.base = 0) ∧
      RowR q μ c l.base cells ∧ (∀ i, fz ≤ i → i < l.tot → ¬ (fr.1 ≤ l.base + i ∧ l.base + i < fr.2)) ∧ (sm = false → ¬ (fr.1 ≤ c.size ∧ c.size < fr.2) ∧ (fr.1 = fr.2 ∨ fr.2 ≤ l.base + fz))
  | .map es, _, o => ∃ (ents : Array MapEntry) (clk : Nat), o = .map ents clk ∧ MapR q μ es ents.toList
  | .iter m, l, o => l.base = 0 ∧ ∃ (ml : Loc) (since stepped : Nat), μ m = some ml ∧ o = .mapIter (some ml.blk) since #[] stepped
  | .loop f n tm params asg body st pend d, _, o => ∃ (tmps : Array Value) (dl : Loc), μ d = some dl ∧ tmps.size = n ∧ TmpR q μ tm tmps ∧
      o = .loop { state := st, pending := pend.code, fn := f, tmps, params := params.toArray, assign := asg, body, defers := dl.blk }
  | .dfr there, _, o => o = .deferred (if there then some [] else none)

theorem MapR.mono {q : Nat} {μ μ' : Mu} (h : Ext μ μ') : ∀ {a : List (AV × AV)} {v : List MapEntry}, MapR q μ a v → MapR q μ' a v
  | [], [], _ => by simp [MapR]
  | _ :: _, _ :: _, r => by simp only [MapR] at r ⊢; exact ⟨r.1.mono h _ _, r.2.1.mono h _ _, MapR.mono h r.2.2⟩
  | [], _ :: _, r => by simp [MapR] at r
  | _ :: _, [], r => by simp [MapR] at r

theorem TmpR.mono {q : Nat} {μ μ' : Mu} (h : Ext μ μ') {tm : T AV} {tmps : Array Value} (r : TmpR q μ tm tmps) : TmpR q μ' tm tmps :=
  fun i v hv => Rep.mono h _ _ (r i v hv)

theorem RowR.mono {q : Nat} {μ μ' : Mu} (h : Ext μ μ') {c : Array Value} {base : Nat} {cells : List AV} (r : RowR q μ c base cells) : RowR q μ' c base cells :=
  fun i a ha => let ⟨v, h1, h2⟩ := r i a ha; ⟨v, h1, Rep.mono h _ _ h2⟩

theorem Blk.mono {q : Nat} {μ μ' : Mu} (h : Ext μ μ') {b : ABlk} {l : Loc} {o : Obj} (r : Blk q μ b l o) : Blk q μ' b l o := by
  cases b with
  | row et cells opn b0 fz sm =>
    obtain ⟨c, fr, h1, h2, h3, h4, h5, h6, h7⟩ := r
    exact ⟨c, fr, h1, h2, h3, h4, h5, h6.mono h, h7⟩
  | map es => obtain ⟨e, clk, h1, h2⟩ := r; exact ⟨e, clk, h1, h2.mono h⟩
  | iter m => obtain ⟨b0, ml, s, t, h1, h2⟩ := r; exact ⟨b0, ml, s, t, h _ _ h1, h2⟩
  | loop f n tm params asg body st pend d => obtain ⟨tmps, dl, h1, h2, h3, h4⟩ := r; exact ⟨tmps, dl, h _ _ h1, h2, h3.mono h, h4⟩
  | dfr t => exact r

/-- The abstract heap stands for the world's blocks. -/
structure HRep (q : Nat) (μ : Mu) (h : T ABlk) (w : World) : Prop where
  obj : ∀ id b l, h.at_ id = some b → μ id = some l → ∃ o, w.heap[l.blk]? = some o ∧ Blk q μ b l o
  inj : ∀ id id' l l', h.at_ id ≠ none → h.at_ id' ≠ none → μ id = some l → μ id' = some l' → l.blk = l'.blk → id = id'

structure St where
  tm : T AV
  n : Nat
  df : List Nat
  h : T ABlk
  nx : Nat
  ro : Nat
  wl : List Nat
  mw : Nat

def St.canW (st : St) (id : Nat) : Bool := Nat.ble st.ro id || st.wl.contains id

def DefR (μ : Mu) : List Nat → List Deferred → Prop
  | [], [] => True
  | id :: l, d :: ds => (∃ lc, μ id = some lc ∧ d = { target := .collected lc.blk, args := #[] }) ∧ DefR μ l ds
  | _, _ => False

theorem DefR.mono {μ μ' : Mu} (h : Ext μ μ') : ∀ {a : List Nat} {v : List Deferred}, DefR μ a v → DefR μ' a v
  | [], [], _ => by simp [DefR]
  | _ :: _, _ :: _, r => by simp only [DefR] at r ⊢; obtain ⟨⟨l, h1, h2⟩, r⟩ := r; exact ⟨⟨l, h _ _ h1, h2⟩, DefR.mono h r⟩
  | [], _ :: _, r => by simp [DefR] at r
  | _ :: _, [], r => by simp [DefR] at r

/-- The whole state: the frame's temporaries and deferred marks, the heap. -/
structure SRep (q : Nat) (μ : Mu) (st : St) (tmps : Array Value) (df : List Deferred) (w : World) : Prop where
  size : tmps.size = st.n
  tmp : TmpR q μ st.tm tmps
  dfr : DefR μ st.df df
  heap : HRep q μ st.h w
  fresh : ∀ id, st.nx ≤ id → μ id = none

/-- Block b is one that the state may write. -/
def Wr (μ : Mu) (st : St) (b : Nat) : Prop := ∃ id l, st.h.at_ id ≠ none ∧ st.canW id = true ∧ μ id = some l ∧ l.blk = b

/-- What lies between two states. -/
structure Good (μ : Mu) (st : St) (w : World) (μ' : Mu) (st' : St) (w' : World) : Prop where
  ext : Ext μ μ'
  nx : st.nx ≤ st'.nx
  ro : st'.ro = st.ro
  wl : st'.wl = st.wl
  mw : st'.mw ≤ st.mw
  os : w'.os = w.os
  tape : w'.tape = w.tape
  output : w'.output = w.output
  size : w.heap.size ≤ w'.heap.size
  frame : ∀ b, b < w.heap.size → ¬ Wr μ st b → w'.heap[b]? = w.heap[b]?
  new : ∀ id l, μ' id = some l → μ id = none → w.heap.size ≤ l.blk ∨ Wr μ st l.blk
  live : ∀ id, id < st.nx → st'.h.at_ id ≠ none → st.h.at_ id ≠ none
  keep : ∀ id, id < st.nx → id < st'.mw → st'.h.at_ id = st.h.at_ id
  low : ∀ id, id < st.nx → μ' id = μ id

theorem Good.refl (μ : Mu) (st : St) (w : World) : Good μ st w μ st w :=
  ⟨Ext.refl _, Nat.le_refl _, rfl, rfl, Nat.le_refl _, rfl, rfl, rfl, Nat.le_refl _, fun _ _ _ => rfl, fun _ _ h h' => by simp [h'] at h, fun _ _ h => h, fun _ _ _ => rfl, fun _ _ => rfl⟩

theorem St.canW_congr {st st' : St} (h1 : st'.ro = st.ro) (h2 : st'.wl = st.wl) (id : Nat) : st'.canW id = st.canW id := by simp [St.canW, h1, h2]

theorem Good.wr_back {μ μ' : Mu} {st st' : St} {w w' : World} (g : Good μ st w μ' st' w') (hf : ∀ id, st.nx ≤ id → μ id = none) {b : Nat} (h : Wr μ' st' b) : w.heap.size ≤ b ∨ Wr μ st b := by
  obtain ⟨id, l, h1, h2, h3, rfl⟩ := h
  cases hm : μ id with
  | none => exact g.new id l h3 hm
  | some l' =>
    have e := g.ext id l' hm
    rw [h3] at e
    obtain rfl := Option.some.inj e
    refine .inr ⟨id, l, g.live id ?_ h1, ?_, hm, rfl⟩
    · by_cases hlt : id < st.nx
      · exact hlt
      · rw [hf id (by omega)] at hm; cases hm
    · rw [← St.canW_congr g.ro g.wl]; exact h2

theorem Good.trans {μ μ₁ μ₂ : Mu} {st st₁ st₂ : St} {w w₁ w₂ : World} (hf : ∀ id, st.nx ≤ id → μ id = none) (a : Good μ st w μ₁ st₁ w₁) (b : Good μ₁ st₁ w₁ μ₂ st₂ w₂) : Good μ st w μ₂ st₂ w₂ where
  ext := a.ext.trans b.ext
  nx := Nat.le_trans a.nx b.nx
  ro := b.ro.trans a.ro
  wl := b.wl.trans a.wl
  mw := Nat.le_trans b.mw a.mw
  os := b.os.trans a.os
  tape := b.tape.trans a.tape
  output := b.output.trans a.output
  size := Nat.le_trans a.size b.size
  frame := fun k hk hw => by
    rw [b.frame k (Nat.lt_of_lt_of_le hk a.size) (fun h => ?_), a.frame k hk hw]
    rcases a.wr_back hf h with h' | h'
    · omega
    · exact hw h'
  new := fun id l h2 h0 => by
    cases hm : μ₁ id with
    | none =>
      rcases b.new id l h2 hm with h | h
      · exact .inl (Nat.le_trans a.size h)
      · exact a.wr_back hf h
    | some l' =>
      have e := b.ext id l' hm
      rw [h2] at e
      obtain rfl := Option.some.inj e
      exact a.new id l hm h0
  live := fun id hid h => a.live id hid (b.live id (Nat.lt_of_lt_of_le hid a.nx) h)
  keep := fun id hid h => (b.keep id (Nat.lt_of_lt_of_le hid a.nx) h).trans (a.keep id hid (Nat.lt_of_lt_of_le h b.mw))
  low := fun id hid => (b.low id (Nat.lt_of_lt_of_le hid a.nx)).trans (a.low id hid)

/-- A state that differs in its temporaries alone. -/
theorem Good.tmps {μ : Mu} {st : St} {w : World} (tm : T AV) (n : Nat) (df : List Nat) : Good μ st w μ { st with tm := tm, n := n, df := df } w :=
  ⟨Ext.refl _, Nat.le_refl _, rfl, rfl, Nat.le_refl _, rfl, rfl, rfl, Nat.le_refl _, fun _ _ _ => rfl, fun _ _ h h' => by simp [h'] at h, fun _ _ h => h, fun _ _ _ => rfl, fun _ _ => rfl⟩

/-- A draw. -/
theorem Good.drew {μ : Mu} {st : St} {w : World} : Good μ st w μ st { w with drawn := w.drawn + 1 } :=
  ⟨Ext.refl _, Nat.le_refl _, rfl, rfl, Nat.le_refl _, rfl, rfl, rfl, Nat.le_refl _, fun _ _ _ => rfl, fun _ _ h h' => by simp [h'] at h, fun _ _ h => h, fun _ _ _ => rfl, fun _ _ => rfl⟩

theorem HRep.of_heap {q : Nat} {μ : Mu} {h : T ABlk} {w w' : World} (e : w'.heap = w.heap) (r : HRep q μ h w) : HRep q μ h w' :=
  ⟨fun id b l hb hl => by obtain ⟨o, h2, h3⟩ := r.obj id b l hb hl; exact ⟨o, by rw [e]; exact h2, h3⟩, r.inj⟩

/-! ### a new object -/
def Mu.add (μ : Mu) (id : Nat) (l : Loc) : Mu := fun i => if i = id then some l else μ i
theorem Mu.add_ext {μ : Mu} {id : Nat} {l : Loc} (h : μ id = none) : Ext μ (μ.add id l) := fun i l' hi => by
  unfold Mu.add
  by_cases e : i = id
  · subst e; rw [h] at hi; cases hi
  · rw [if_neg e]; exact hi
theorem Mu.add_same (μ : Mu) (id : Nat) (l : Loc) : μ.add id l id = some l := by simp [Mu.add]
theorem Mu.add_fresh {μ : Mu} {nx : Nat} {l : Loc} (h : ∀ id, nx ≤ id → μ id = none) : ∀ id, nx + 1 ≤ id → μ.add nx l id = none := fun id hid => by
  unfold Mu.add; rw [if_neg (by omega)]; exact h id (by omega)

def St.new (st : St) (b : ABlk) : St := { st with h := st.h.put st.nx (some b), nx := st.nx + 1 }

theorem HRep.blk_lt {q : Nat} {μ : Mu} {h : T ABlk} {w : World} (r : HRep q μ h w) {id : Nat} {l : Loc} (hi : h.at_ id ≠ none) (hm : μ id = some l) : l.blk < w.heap.size := by
  cases hb : h.at_ id with
  | none => exact absurd hb hi
  | some b =>
    obtain ⟨o, h2, _⟩ := r.obj id b l hb hm
    exact (Array.getElem?_eq_some_iff.1 h2).1

theorem new_ok {q : Nat} {μ : Mu} {st : St} {w : World} {o : Obj} {b : ABlk} {l : Loc} (hr : HRep q μ st.h w) (hf : ∀ id, st.nx ≤ id → μ id = none)
    (hl : l.blk = w.heap.size) (hb : Blk q (μ.add st.nx l) b l o) :
    Good μ st w (μ.add st.nx l) (st.new b) { w with heap := w.heap.push o } ∧ HRep q (μ.add st.nx l) (st.new b).h { w with heap := w.heap.push o } ∧ ∀ id, (st.new b).nx ≤ id → μ.add st.nx l id = none := by
  have hext : Ext μ (μ.add st.nx l) := Mu.add_ext (hf _ (Nat.le_refl _))
  have hsz : (w.heap.push o).size = w.heap.size + 1 := by simp
  refine ⟨⟨hext, Nat.le_succ _, rfl, rfl, Nat.le_refl _, rfl, rfl, rfl, by simp, ?_, ?_, ?_, ?_, fun id hid => by unfold Mu.add; rw [if_neg (by omega)]⟩, ⟨?_, ?_⟩, Mu.add_fresh hf⟩
  · intro k hk _
    show (w.heap.push o)[k]? = _
    rw [Array.getElem?_push, if_neg (by omega)]
  · intro id l' h1 h2
    unfold Mu.add at h1
    by_cases e : id = st.nx
    · rw [if_pos e] at h1; obtain rfl := Option.some.inj h1; exact .inl (by omega)
    · rw [if_neg e, h2] at h1; cases h1
  · intro id hid h
    simp only [St.new, T.at_put] at h
    rw [if_neg (by omega)] at h
    exact h
  · intro id hid _
    simp only [St.new, T.at_put]
    rw [if_neg (by omega)]
  · intro id b' l' h hm
    simp only [St.new, T.at_put] at h
    by_cases e : id = st.nx
    · rw [if_pos e] at h
      obtain rfl := Option.some.inj h
      subst e
      rw [Mu.add_same] at hm
      obtain rfl := Option.some.inj hm
      exact ⟨o, by show (w.heap.push o)[l.blk]? = _; rw [hl]; simp, hb⟩
    · rw [if_neg e] at h
      unfold Mu.add at hm
      rw [if_neg e] at hm
      obtain ⟨o', h2, h3⟩ := hr.obj id b' l' h hm
      refine ⟨o', ?_, h3.mono hext⟩
      have := hr.blk_lt (by rw [h]; simp) hm
      show (w.heap.push o)[l'.blk]? = _
      rw [Array.getElem?_push, if_neg (by omega)]
      exact h2
  · intro id id' l1 l2 h1 h2 m1 m2 e
    simp only [St.new, T.at_put] at h1 h2
    unfold Mu.add at m1 m2
    by_cases e1 : id = st.nx
    · by_cases e2 : id' = st.nx
      · omega
      · rw [if_neg e2] at h2 m2
        rw [if_pos e1] at m1
        obtain rfl := Option.some.inj m1
        have := hr.blk_lt h2 m2
        omega
    · rw [if_neg e1] at h1 m1
      by_cases e2 : id' = st.nx
      · rw [if_pos e2] at m2
        obtain rfl := Option.some.inj m2
        have := hr.blk_lt h1 m1
        omega
      · rw [if_neg e2] at h2 m2
        exact hr.inj id id' l1 l2 h1 h2 m1 m2 e

/-! ### an object is turned -/
def St.turn (st : St) (id : Nat) (b : ABlk) : St := { st with h := st.h.put id (some b), mw := min st.mw id }

theorem turn_ok {q : Nat} {μ : Mu} {st : St} {w w' : World} {o : Obj} {b : ABlk} {id : Nat} {l : Loc} (hr : HRep q μ st.h w)
    (hid : st.h.at_ id ≠ none) (hw : st.canW id = true) (hl : μ id = some l) (hb : Blk q μ b l o)
    (e1 : w'.os = w.os) (e2 : w'.tape = w.tape) (e3 : w'.output = w.output) (hsz : w'.heap.size = w.heap.size) (hat : w'.heap[l.blk]? = some o) (hoth : ∀ k, k ≠ l.blk → w'.heap[k]? = w.heap[k]?) :
    Good μ st w μ (st.turn id b) w' ∧ HRep q μ (st.turn id b).h w' := by
  refine ⟨⟨Ext.refl _, Nat.le_refl _, rfl, rfl, Nat.min_le_left _ _, e1, e2, e3, by omega, ?_, ?_, ?_, ?_, fun _ _ => rfl⟩, ⟨?_, ?_⟩⟩
  · intro k hk hn
    exact hoth k fun e => hn ⟨id, l, hid, hw, hl, e.symm⟩
  · intro _ _ h h'; simp [h'] at h
  · intro i hi h
    simp only [St.turn, T.at_put] at h
    by_cases e : i = id
    · rw [e]; exact hid
    · rw [if_neg e] at h; exact h
  · intro i hi h
    simp only [St.turn, T.at_put] at h ⊢
    rw [if_neg (by omega)]
  · intro i b' l' h h1
    simp only [St.turn, T.at_put] at h
    by_cases e : i = id
    · rw [if_pos e] at h
      obtain rfl := Option.some.inj h
      subst e
      rw [hl] at h1
      obtain rfl := Option.some.inj h1
      exact ⟨o, hat, hb⟩
    · rw [if_neg e] at h
      obtain ⟨o', h2, h3⟩ := hr.obj i b' l' h h1
      refine ⟨o', ?_, h3⟩
      rw [hoth _ fun e' => e (hr.inj i id l' l (by rw [h]; simp) hid h1 hl e')]
      exact h2
  · intro i i' l1 l2 h1 h2 m1 m2 e
    have back : ∀ j, (st.turn id b).h.at_ j ≠ none → st.h.at_ j ≠ none := by
      intro j hj
      simp only [St.turn, T.at_put] at hj
      by_cases ej : j = id
      · rw [ej]; exact hid
      · rw [if_neg ej] at hj; exact hj
    exact hr.inj i i' l1 l2 (back i h1) (back i' h2) m1 m2 e

end Go.Proofs.YtdkcihleblbkaaaGreatDoor.Eng

/- A verified symbolic executor, part 3: pieces of code. The lemmas hold of every program; no project text. -/
namespace Go.Proofs.YtdkcihleblbkaaaGreatDoor.Eng
set_option linter.unusedVariables false
set_option linter.unusedSimpArgs false
set_option linter.unusedSectionVars false
open Go

/-- A frame that runs: a function's, or a round's. -/
def mk (f : FuncId) (r : Option Nat) (tmps : Array Value) (df : List Deferred) (todo : List Item) : Frame :=
  { fn := f, tmps, todo, defers := df, mode := .run, kind := .normal, roundOf := r }

section moves
variable {P : Program} {f : FuncId} {r : Option Nat} {tmps : Array Value} {df : List Deferred} {k : List Item} {cs : List Frame} {w : World}

theorem st_skip : step P (lone (mk f r tmps df (.code .skip :: k)) cs w) = .next (lone (mk f r tmps df k) cs w) := step_lone_go (by simp [stepG, stepG.exec, mk])
theorem st_label {l : Nat} : step P (lone (mk f r tmps df (.code (.label l) :: k)) cs w) = .next (lone (mk f r tmps df k) cs w) := step_lone_go (by simp [stepG, stepG.exec, mk])
theorem st_inBlock {id : Nat} : step P (lone (mk f r tmps df (.inBlock id :: k)) cs w) = .next (lone (mk f r tmps df k) cs w) := step_lone_go (by simp [stepG, stepG.exec, mk])
theorem st_inScope {c : Code} : step P (lone (mk f r tmps df (.inScope c :: k)) cs w) = .next (lone (mk f r tmps df k) cs w) := step_lone_go (by simp [stepG, stepG.exec, mk])
theorem st_seq {a b : Code} : step P (lone (mk f r tmps df (.code (.seq a b) :: k)) cs w) = .next (lone (mk f r tmps df (.code a :: .code b :: k)) cs w) := step_lone_go (by simp [stepG, stepG.exec, mk])
theorem st_cond {c : Operand} {a b : Code} {t : Bool} (h : (mk f r tmps df []).eval c = .bool t) :
    step P (lone (mk f r tmps df (.code (.cond c a b) :: k)) cs w) = .next (lone (mk f r tmps df (.code (if t then a else b) :: k)) cs w) :=
  step_lone_go (by
    have h' : (mk f r tmps df (.code (.cond c a b) :: k)).eval c = .bool t := by cases c <;> exact h
    simp only [mk] at h'
    simp [stepG, stepG.exec, mk, h'])
theorem st_block {id : Nat} {c : Code} : step P (lone (mk f r tmps df (.code (.block id c) :: k)) cs w) = .next (lone (mk f r tmps df (.code c :: .inBlock id :: k)) cs w) := step_lone_go (by simp [stepG, stepG.exec, mk])
theorem st_loop {c : Code} : step P (lone (mk f r tmps df (.code (.loop c) :: k)) cs w) = .next (lone (mk f r tmps df (.code c :: .inLoop c :: k)) cs w) := step_lone_go (by simp [stepG, stepG.exec, mk])
theorem st_inLoop {c : Code} : step P (lone (mk f r tmps df (.inLoop c :: k)) cs w) = .next (lone (mk f r tmps df (.code c :: .inLoop c :: k)) cs w) := step_lone_go (by simp [stepG, stepG.exec, mk])
theorem st_scope {c : Code} : step P (lone (mk f r tmps df (.code (.scope c) :: k)) cs w) = .next (lone (mk f r tmps df (.code c :: .inScope c :: k)) cs w) := step_lone_go (by simp [stepG, stepG.exec, mk])
theorem st_exit {id : Nat} {k' : List Item} (h : exitTo id k = some k') : step P (lone (mk f r tmps df (.code (.exit id) :: k)) cs w) = .next (lone (mk f r tmps df k') cs w) := step_lone_go (by simp [stepG, stepG.exec, mk, h])
theorem st_region {id : Nat} {ops : Array Oper} : step P (lone (mk f r tmps df (.code (.region id ops false) :: k)) cs w) = .next (lone (mk f r tmps df (.inRegion ops (List.range ops.size) :: k)) cs w) := step_lone_go (by simp [stepG, stepG.exec, mk])
theorem st_draw {id : Nat} {ops : Array Oper} : step P (lone (mk f r tmps df (.code (.region id ops true) :: k)) cs w) =
    .next (lone (mk f r tmps df (.inRegion ops (Region.schedule (P.follows .mixedOrders) ops (w.tape w.drawn (.order f id))) :: k)) cs { w with drawn := w.drawn + 1 }) :=
  step_lone_go (by simp [stepG, stepG.exec, mk, choose, Sem.run, Question.forced, Question.cut])
theorem st_regionEnd {ops : Array Oper} : step P (lone (mk f r tmps df (.inRegion ops [] :: k)) cs w) = .next (lone (mk f r tmps df k) cs w) := step_lone_go (by simp [stepG, stepG.exec, mk])
theorem st_opSkip {ops : Array Oper} {i : Nat} {rest : List Nat} (h : ((ops[i]?).map (Region.wanted · (yielded ops tmps))).getD false = false) :
    step P (lone (mk f r tmps df (.inRegion ops (i :: rest) :: k)) cs w) = .next (lone ((mk f r tmps df (.inRegion ops (i :: rest) :: k)).finish undef) cs w) :=
  step_lone_go (by
    have h' := h
    simp only [mk] at *
    cases ho : ops[i]? with
    | none => simp [stepG, stepG.exec, Frame.finish, ho]
    | some o =>
      simp only [ho, Option.map_some, Option.getD_some] at h'
      cases hd : o.dst <;> simp [stepG, stepG.exec, Frame.finish, ho, h', hd])
end moves

/-- How a piece of code is left: straight on, or standing at a jump. -/
def Arr (P : Program) (m : Machine) (f : FuncId) (r : Option Nat) (k : List Item) (cs : List Frame) : Jump → Array Value → List Deferred → World → Prop
  | .normal, tmps, df, w => Steps P m (lone (mk f r tmps df k) cs w)
  | .exit id, tmps, df, w => ∃ k0, exitTo id k0 = exitTo id k ∧ Steps P m (lone (mk f r tmps df (.code (.exit id) :: k0)) cs w)
  | .ret, tmps, df, w => ∃ k0, Steps P m (lone (mk f r tmps df (.code .ret :: k0)) cs w)

theorem Arr.of_steps {P : Program} {m m' : Machine} {f : FuncId} {r : Option Nat} {k : List Item} {cs : List Frame} {j : Jump} {tmps : Array Value} {df : List Deferred} {w : World}
    (h : Steps P m m') (a : Arr P m' f r k cs j tmps df w) : Arr P m f r k cs j tmps df w := by
  cases j with
  | normal => exact h.trans a
  | exit id => obtain ⟨k0, h1, h2⟩ := a; exact ⟨k0, h1, h.trans h2⟩
  | ret => obtain ⟨k0, h2⟩ := a; exact ⟨k0, h.trans h2⟩

theorem Arr.pass {P : Program} {m : Machine} {f : FuncId} {r : Option Nat} {x : Item} {k : List Item} {cs : List Frame} {j : Jump} {tmps : Array Value} {df : List Deferred} {w : World}
    (hx : ∀ id, exitTo id (x :: k) = exitTo id k) (hj : j ≠ .normal) (a : Arr P m f r (x :: k) cs j tmps df w) : Arr P m f r k cs j tmps df w := by
  cases j with
  | normal => exact absurd rfl hj
  | exit id => obtain ⟨k0, h1, h2⟩ := a; exact ⟨k0, h1.trans (hx id), h2⟩
  | ret => exact a

abbrev Out := List (Jump × St)
abbrev Ret := List (AV × St)

/-- What is said of a piece of code and the outcomes that the executor gives. -/
def CodeOk (P : Program) (q : Nat) (f : FuncId) (r : Option Nat) (c : Code) (st : St) (outs : Out) : Prop :=
  ∀ μ tmps df w, SRep q μ st tmps df w → ∀ k cs, ∃ j st', (j, st') ∈ outs ∧ ∃ μ' tmps' df' w', SRep q μ' st' tmps' df' w' ∧ Good μ st w μ' st' w' ∧
    Arr P (lone (mk f r tmps df (.code c :: k)) cs w) f r k cs j tmps' df' w'

def bindOut : Out → (St → Option Out) → Option Out
  | [], _ => some []
  | (.normal, s) :: l, g => match g s with
    | none => none
    | some o => match bindOut l g with
      | none => none
      | some o' => some (o ++ o')
  | (j, s) :: l, g => match bindOut l g with
      | none => none
      | some o' => some ((j, s) :: o')

theorem bindOut_normal : ∀ {l : Out} {g : St → Option Out} {o : Out} {s : St}, bindOut l g = some o → (Jump.normal, s) ∈ l → ∃ o1, g s = some o1 ∧ ∀ x ∈ o1, x ∈ o
  | [], _, _, _, _, hm => by simp at hm
  | (j, s') :: l, g, o, s, h, hm => by
    cases j with
    | normal =>
      simp only [bindOut] at h
      cases hg : g s' with
      | none => simp [hg] at h
      | some o1 =>
        cases hl : bindOut l g with
        | none => simp [hg, hl] at h
        | some o2 =>
          simp only [hg, hl, Option.some.injEq] at h
          subst h
          rcases List.mem_cons.1 hm with e | e
          · cases e; exact ⟨o1, hg, fun x hx => List.mem_append.2 (.inl hx)⟩
          · obtain ⟨o3, h1, h2⟩ := bindOut_normal hl e; exact ⟨o3, h1, fun x hx => List.mem_append.2 (.inr (h2 x hx))⟩
    | exit id =>
      simp only [bindOut] at h
      cases hl : bindOut l g with
      | none => simp [hl] at h
      | some o2 =>
        simp only [hl, Option.some.injEq] at h
        subst h
        rcases List.mem_cons.1 hm with e | e
        · cases e
        · obtain ⟨o3, h1, h2⟩ := bindOut_normal hl e; exact ⟨o3, h1, fun x hx => List.mem_cons.2 (.inr (h2 x hx))⟩
    | ret =>
      simp only [bindOut] at h
      cases hl : bindOut l g with
      | none => simp [hl] at h
      | some o2 =>
        simp only [hl, Option.some.injEq] at h
        subst h
        rcases List.mem_cons.1 hm with e | e
        · cases e
        · obtain ⟨o3, h1, h2⟩ := bindOut_normal hl e; exact ⟨o3, h1, fun x hx => List.mem_cons.2 (.inr (h2 x hx))⟩

theorem bindOut_jump : ∀ {l : Out} {g : St → Option Out} {o : Out} {j : Jump} {s : St}, bindOut l g = some o → j ≠ .normal → (j, s) ∈ l → (j, s) ∈ o
  | [], _, _, _, _, _, _, hm => by simp at hm
  | (j', s') :: l, g, o, j, s, h, hj, hm => by
    cases j' with
    | normal =>
      simp only [bindOut] at h
      cases hg : g s' with
      | none => simp [hg] at h
      | some o1 =>
        cases hl : bindOut l g with
        | none => simp [hg, hl] at h
        | some o2 =>
          simp only [hg, hl, Option.some.injEq] at h
          subst h
          rcases List.mem_cons.1 hm with e | e
          · cases e; exact absurd rfl hj
          · exact List.mem_append.2 (.inr (bindOut_jump hl hj e))
    | exit id =>
      simp only [bindOut] at h
      cases hl : bindOut l g with
      | none => simp [hl] at h
      | some o2 =>
        simp only [hl, Option.some.injEq] at h
        subst h
        rcases List.mem_cons.1 hm with e | e
        · cases e; exact List.mem_cons.2 (.inl rfl)
        · exact List.mem_cons.2 (.inr (bindOut_jump hl hj e))
    | ret =>
      simp only [bindOut] at h
      cases hl : bindOut l g with
      | none => simp [hl] at h
      | some o2 =>
        simp only [hl, Option.some.injEq] at h
        subst h
        rcases List.mem_cons.1 hm with e | e
        · cases e; exact List.mem_cons.2 (.inl rfl)
        · exact List.mem_cons.2 (.inr (bindOut_jump hl hj e))

section rules
variable {P : Program} {q : Nat} {f : FuncId} {r : Option Nat}

theorem ok_jump {c : Code} {st : St} {j : Jump} (hc : ∀ k cs tmps df w, Arr P (lone (mk f r tmps df (.code c :: k)) cs w) f r k cs j tmps df w) : CodeOk P q f r c st [(j, st)] :=
  fun μ tmps df w h k cs => ⟨j, st, by simp, μ, tmps, df, w, h, Good.refl _ _ _, hc k cs tmps df w⟩

theorem ok_skip {st : St} : CodeOk P q f r .skip st [(.normal, st)] := ok_jump fun _ _ _ _ _ => .one st_skip
theorem ok_label {l : Nat} {st : St} : CodeOk P q f r (.label l) st [(.normal, st)] := ok_jump fun _ _ _ _ _ => .one st_label
theorem ok_exit {id : Nat} {st : St} : CodeOk P q f r (.exit id) st [(.exit id, st)] := ok_jump fun k _ _ _ _ => ⟨k, rfl, Steps.refl _ _⟩
theorem ok_ret {st : St} : CodeOk P q f r .ret st [(.ret, st)] := ok_jump fun k _ _ _ _ => ⟨k, Steps.refl _ _⟩

theorem ok_seq {a b : Code} {st : St} {o1 o : Out} {g : St → Option Out} (h1 : CodeOk P q f r a st o1) (hb : bindOut o1 g = some o)
    (h2 : ∀ s o2, g s = some o2 → CodeOk P q f r b s o2) : CodeOk P q f r (.seq a b) st o := by
  intro μ tmps df w hs k cs
  obtain ⟨j, st', hm, μ', tmps', df', w', hs', hg, harr⟩ := h1 μ tmps df w hs (.code b :: k) cs
  by_cases hj : j = .normal
  · subst hj
    obtain ⟨o2, hg2, hsub⟩ := bindOut_normal hb hm
    obtain ⟨j2, st2, hm2, μ2, tmps2, df2, w2, hs2, hg2', harr2⟩ := h2 st' o2 hg2 μ' tmps' df' w' hs' k cs
    exact ⟨j2, st2, hsub _ hm2, μ2, tmps2, df2, w2, hs2, hg.trans hs.fresh hg2', .of_steps (.head st_seq harr) harr2⟩
  · exact ⟨j, st', bindOut_jump hb hj hm, μ', tmps', df', w', hs', hg, .of_steps (.one st_seq) (.pass (x := .code b) (fun _ => rfl) hj harr)⟩

theorem ok_cond {c : Operand} {a b : Code} {st : St} {t : Bool} {o : Out} (hc : ∀ μ tmps df w, SRep q μ st tmps df w → (mk f r tmps df []).eval c = .bool t)
    (h : CodeOk P q f r (if t then a else b) st o) : CodeOk P q f r (.cond c a b) st o := by
  intro μ tmps df w hs k cs
  obtain ⟨j, st', hm, μ', tmps', df', w', hs', hg, harr⟩ := h μ tmps df w hs k cs
  exact ⟨j, st', hm, μ', tmps', df', w', hs', hg, .of_steps (.one (st_cond (hc μ tmps df w hs))) harr⟩

theorem ok_cond2 {c : Operand} {a b : Code} {st : St} {oa ob : Out} (hc : ∀ μ tmps df w, SRep q μ st tmps df w → ∃ t, (mk f r tmps df []).eval c = .bool t)
    (ha : CodeOk P q f r a st oa) (hb : CodeOk P q f r b st ob) : CodeOk P q f r (.cond c a b) st (oa ++ ob) := by
  intro μ tmps df w hs k cs
  obtain ⟨t, ht⟩ := hc μ tmps df w hs
  cases t with
  | true =>
    obtain ⟨j, st', hm, μ', tmps', df', w', hs', hg, harr⟩ := ha μ tmps df w hs k cs
    exact ⟨j, st', List.mem_append.2 (.inl hm), μ', tmps', df', w', hs', hg, .of_steps (.one (st_cond ht)) harr⟩
  | false =>
    obtain ⟨j, st', hm, μ', tmps', df', w', hs', hg, harr⟩ := hb μ tmps df w hs k cs
    exact ⟨j, st', List.mem_append.2 (.inr hm), μ', tmps', df', w', hs', hg, .of_steps (.one (st_cond ht)) harr⟩

def outBlock (id : Nat) (o : Out) : Out := o.map fun x => match x.1 with
  | .exit i => bif Nat.beq i id then (.normal, x.2) else x
  | _ => x

theorem ok_block {id : Nat} {c : Code} {st : St} {o : Out} (h : CodeOk P q f r c st o) : CodeOk P q f r (.block id c) st (outBlock id o) := by
  intro μ tmps df w hs k cs
  obtain ⟨j, st', hm, μ', tmps', df', w', hs', hg, harr⟩ := h μ tmps df w hs (.inBlock id :: k) cs
  cases j with
  | normal => exact ⟨.normal, st', List.mem_map.2 ⟨_, hm, rfl⟩, μ', tmps', df', w', hs', hg, .head st_block (Steps.trans harr (.one st_inBlock))⟩
  | ret => exact ⟨.ret, st', List.mem_map.2 ⟨_, hm, rfl⟩, μ', tmps', df', w', hs', hg, .of_steps (.one st_block) harr⟩
  | exit i =>
    obtain ⟨k0, hk0, hst⟩ := harr
    by_cases hi : i = id
    · refine ⟨.normal, st', List.mem_map.2 ⟨_, hm, by simp [hi]⟩, μ', tmps', df', w', hs', hg, .head st_block (hst.trans (.one (st_exit ?_)))⟩
      rw [hk0]; simp [exitTo, hi]
    · refine ⟨.exit i, st', List.mem_map.2 ⟨_, hm, by simp [beqf hi]⟩, μ', tmps', df', w', hs', hg, .of_steps (.one st_block) ⟨k0, ?_, hst⟩⟩
      rw [hk0]
      have : (id == i) = false := by simp; exact fun h => hi h.symm
      simp [exitTo, this]

theorem ok_scope {c : Code} {st : St} {o : Out} (h : CodeOk P q f r c st o) : CodeOk P q f r (.scope c) st o := by
  intro μ tmps df w hs k cs
  obtain ⟨j, st', hm, μ', tmps', df', w', hs', hg, harr⟩ := h μ tmps df w hs (.inScope c :: k) cs
  by_cases hj : j = .normal
  · subst hj
    exact ⟨.normal, st', hm, μ', tmps', df', w', hs', hg, .head st_scope (Steps.trans harr (.one st_inScope))⟩
  · exact ⟨j, st', hm, μ', tmps', df', w', hs', hg, .of_steps (.one st_scope) (.pass (x := .inScope c) (fun _ => rfl) hj harr)⟩

def iter (body : St → Option Out) : Nat → St → Option Out
  | 0, _ => none
  | n + 1, st => match body st with
    | none => none
    | some o => bindOut o (iter body n)

theorem ok_loop_aux {c : Code} {body : St → Option Out} (hb : ∀ s o, body s = some o → CodeOk P q f r c s o) : ∀ (n : Nat) (st : St) (o : Out), iter body n st = some o →
    ∀ μ tmps df w, SRep q μ st tmps df w → ∀ k cs, ∃ j st', (j, st') ∈ o ∧ ∃ μ' tmps' df' w', SRep q μ' st' tmps' df' w' ∧ Good μ st w μ' st' w' ∧ j ≠ .normal ∧
      Arr P (lone (mk f r tmps df (.code c :: .inLoop c :: k)) cs w) f r k cs j tmps' df' w' := by
  intro n
  induction n with
  | zero => intro st o h; simp [iter] at h
  | succ n ih =>
    intro st o h μ tmps df w hs k cs
    simp only [iter] at h
    cases hbd : body st with
    | none => simp [hbd] at h
    | some o1 =>
      simp only [hbd] at h
      obtain ⟨j, st', hm, μ', tmps', df', w', hs', hg, harr⟩ := hb st o1 hbd μ tmps df w hs (.inLoop c :: k) cs
      by_cases hj : j = .normal
      · subst hj
        obtain ⟨o2, hi, hsub⟩ := bindOut_normal h hm
        obtain ⟨j2, st2, hm2, μ2, tmps2, df2, w2, hs2, hg2, hne, harr2⟩ := ih st' o2 hi μ' tmps' df' w' hs' k cs
        exact ⟨j2, st2, hsub _ hm2, μ2, tmps2, df2, w2, hs2, hg.trans hs.fresh hg2, hne, .of_steps (Steps.trans harr (.one st_inLoop)) harr2⟩
      · exact ⟨j, st', bindOut_jump h hj hm, μ', tmps', df', w', hs', hg, hj, .pass (x := .inLoop c) (fun _ => rfl) hj harr⟩

theorem ok_loop {c : Code} {body : St → Option Out} (hb : ∀ s o, body s = some o → CodeOk P q f r c s o) {n : Nat} {st : St} {o : Out} (h : iter body n st = some o) : CodeOk P q f r (.loop c) st o := by
  intro μ tmps df w hs k cs
  obtain ⟨j, st', hm, μ', tmps', df', w', hs', hg, _, harr⟩ := ok_loop_aux hb n st o h μ tmps df w hs k cs
  exact ⟨j, st', hm, μ', tmps', df', w', hs', hg, .of_steps (.one st_loop) harr⟩

end rules
end Go.Proofs.YtdkcihleblbkaaaGreatDoor.Eng

/- A verified symbolic executor, part 4: operands, operations at a frame, regions in the text's order. The lemmas hold of every program; no project text. -/
namespace Go.Proofs.YtdkcihleblbkaaaGreatDoor.Eng
set_option linter.unusedVariables false
set_option linter.unusedSimpArgs false
set_option linter.unusedSectionVars false
open Go

theorem blt_lt {a b : Nat} (h : Nat.blt a b = true) : a < b := by rwa [Nat.blt_eq] at h

/-! ### operands -/
def ofVal1 : Value → Option AV
  | .bool b => some (.bool b)
  | .int k n => some (.int k n)
  | .string s => some (.str (s.data.toList.map UInt8.toNat))
  | .pointer none => some .ptr0
  | .slice none 0 0 => some .sl0
  | .map none => some .map0
  | .nilFunc => some .fn0
  | .nilIface => some .ifc0
  | .func (.func f) a b => if a.isEmpty && b.isEmpty then some (.fn f [] []) else none
  | _ => none

def ofVals : List Value → Option (List AV)
  | [] => some []
  | v :: l => match ofVal1 v, ofVals l with
    | some a, some as => some (a :: as)
    | _, _ => none

def ofVal (v : Value) : Option AV :=
  match v with
  | .agg cs => (ofVals cs.toList).map .agg
  | .tuple cs => (ofVals cs.toList).map .tup
  | v => ofVal1 v

theorem ofVal1_rep {q : Nat} {μ : Mu} {v : Value} {a : AV} (h : ofVal1 v = some a) : Rep q μ a v := by
  cases v with
  | bool b => simp [ofVal1] at h; subst h; simp [Rep]
  | int k n => simp [ofVal1] at h; subst h; simp [Rep]
  | string s => simp [ofVal1] at h; subst h; simp only [Rep]; exact ⟨s, rfl, BytesR.of_lit q _⟩
  | pointer p => cases p <;> simp [ofVal1] at h; subst h; simp [Rep]
  | slice p l c =>
    cases p with
    | some _ => simp [ofVal1] at h
    | none =>
      cases l with
      | zero => cases c with
        | zero => simp [ofVal1] at h; subst h; simp [Rep]
        | succ c => simp [ofVal1] at h
      | succ l => simp [ofVal1] at h
  | map r => cases r <;> simp [ofVal1] at h; subst h; simp [Rep]
  | nilFunc => simp [ofVal1] at h; subst h; simp [Rep]
  | nilIface => simp [ofVal1] at h; subst h; simp [Rep]
  | func f a b =>
    cases f with
    | func k =>
      simp only [ofVal1] at h
      split at h
      · rename_i he
        simp only [Option.some.injEq] at h
        subst h
        simp only [Bool.and_eq_true, Array.isEmpty_iff] at he
        obtain ⟨rfl, rfl⟩ := he
        simp only [Rep]
        exact ⟨#[], #[], rfl, by simp [RepL], by simp [RepL]⟩
      · cases h
    | _ => simp [ofVal1] at h
  | _ => simp [ofVal1] at h

theorem ofVals_rep {q : Nat} {μ : Mu} : ∀ {l : List Value} {as : List AV}, ofVals l = some as → RepL q μ as l
  | [], as, h => by simp [ofVals] at h; subst h; simp [RepL]
  | v :: l, as, h => by
    simp only [ofVals] at h
    split at h
    · rename_i a as' h1 h2
      simp only [Option.some.injEq] at h
      subst h
      simp only [RepL]
      exact ⟨ofVal1_rep h1, ofVals_rep h2⟩
    · cases h

theorem ofVal_rep {q : Nat} {μ : Mu} {v : Value} {a : AV} (h : ofVal v = some a) : Rep q μ a v := by
  cases v with
  | agg cs =>
    simp only [ofVal, Option.map_eq_some_iff] at h
    obtain ⟨as, h1, rfl⟩ := h
    simp only [Rep]
    exact ⟨cs, rfl, ofVals_rep h1⟩
  | tuple cs =>
    simp only [ofVal, Option.map_eq_some_iff] at h
    obtain ⟨as, h1, rfl⟩ := h
    simp only [Rep]
    exact ⟨cs, rfl, ofVals_rep h1⟩
  | _ => exact ofVal1_rep h

def ev (st : St) : Operand → Option AV
  | .tmp t => bif Nat.blt t st.n then some ((st.tm.at_ t).getD undefA) else none
  | .const v => ofVal v
  | .global _ => none
  | .func f => some (.fn f [] [])

/-- What an abstract reading of operands is worth. -/
def EvOk (q : Nat) (μ : Mu) (e : Operand → Option AV) (ρ : Operand → Value) : Prop := ∀ x a, e x = some a → Rep q μ a (ρ x)

theorem ev_ok {q : Nat} {μ : Mu} {st : St} {tmps : Array Value} {fr : Frame} (hs : tmps.size = st.n) (ht : TmpR q μ st.tm tmps) (hf : fr.tmps = tmps) : EvOk q μ (ev st) fr.eval := by
  intro x a h
  cases x with
  | tmp t =>
    simp only [ev] at h
    cases hb : Nat.blt t st.n with
    | false => simp [hb] at h
    | true =>
      simp only [hb, cond_true, Option.some.injEq] at h
      have hlt : t < tmps.size := by rw [hs]; exact blt_lt hb
      have hv : tmps[t]? = some tmps[t] := Array.getElem?_eq_getElem hlt
      have := ht t _ hv
      rw [h] at this
      simp only [Frame.eval, hf, Array.getD, hlt, dite_true]
      exact this
  | const v => exact ofVal_rep h
  | global g => simp [ev] at h
  | func f =>
    simp only [ev, Option.some.injEq] at h
    subst h
    simp only [Rep, Frame.eval]
    exact ⟨#[], #[], rfl, by simp [RepL], by simp [RepL]⟩

/-! ### an operation at a frame -/
def AtOp (o : Oper) (fr : Frame) : Prop :=
  ∃ (ops : Array Oper) (i : Nat) (rest : List Nat) (k : List Item), fr.todo = .inRegion ops (i :: rest) :: k ∧ ops[i]? = some o ∧ Region.wanted o (yielded ops fr.tmps) = true ∧ fr.mode = .run ∧ fr.kind = .normal

def OpDoes (P : Program) (o : Oper) (ρ : Operand → Value) (w : World) (R : Value → World → Prop) : Prop :=
  ∀ (fr : Frame) (cs : List Frame), AtOp o fr → (∀ x, fr.eval x = ρ x) → ∃ v w', R v w' ∧ Steps P (lone fr cs w) (lone (fr.finish v) cs w')

def Op.plain : Op → Bool
  | .defer _ => false
  | _ => true

theorem stepG_at {P : Program} {o : Oper} {fr : Frame} {cs : List Frame} {w : World} {ρ : Operand → Value} (h : AtOp o fr) (he : ∀ x, fr.eval x = ρ x) (hp : Op.plain o.op = true) :
    stepG P true { frame := fr, callers := cs, status := .running, dying := none } w = stepG.apply P true fr cs none (execOp ρ o) w := by
  obtain ⟨ops, i, rest, k, h1, h2, h3, h4, h5⟩ := h
  have hfe : fr.eval = ρ := funext he
  have hoper : fr.oper? = some o := by simp [Frame.oper?, h1, h2]
  have e1 : stepG P true { frame := fr, callers := cs, status := .running, dying := none } w = stepG.exec P true true fr cs none w := by
    simp [stepG, h4]
  have e2 : stepG.exec P true true fr cs none w = stepG.oper P true fr cs none w := by
    simp [stepG.exec, h1, h2, h3]
  rw [e1, e2]
  unfold stepG.oper
  simp only [hoper]
  rw [hfe]
  cases hr : fr.roundOf with
  | none => rfl
  | some l => cases ho : o.op <;> first | rfl | (rw [ho] at hp; simp [Op.plain] at hp)

theorem does_value {P : Program} {o : Oper} {ρ : Operand → Value} {w w' : World} {v : Value} {R : Value → World → Prop} (hp : Op.plain o.op = true)
    (hr : (execOp ρ o).run P w = .ok (.value v) w') (h : R v w') : OpDoes P o ρ w R := by
  intro fr cs ha he
  refine ⟨v, w', h, .one (step_lone_go ?_)⟩
  rw [stepG_at ha he hp]
  simp [stepG.apply, hr]

theorem does_skip {P : Program} {o : Oper} {ρ : Operand → Value} {w w' : World} {R : Value → World → Prop} (hp : Op.plain o.op = true)
    (hr : (execOp ρ o).run P w = .ok .skip w') (h : R undef w') : OpDoes P o ρ w R := by
  intro fr cs ha he
  refine ⟨undef, w', h, .one (step_lone_go ?_)⟩
  rw [stepG_at ha he hp]
  simp [stepG.apply, hr]

theorem does_enter {P : Program} {o : Oper} {ρ : Operand → Value} {w w' : World} {f : FuncId} {args : Array Value} {R : Value → World → Prop} (hp : Op.plain o.op = true)
    (hr : (execOp ρ o).run P w = .ok (.enter f args) w') (h : Calls P f args w' fun e w'' => ∃ v, e = .returned v ∧ R v w'') : OpDoes P o ρ w R := by
  intro fr cs ha he
  obtain ⟨e, w'', fr', ⟨v, rfl, hR⟩, hsteps, _, hleave⟩ := h (fr :: cs)
  refine ⟨v, w'', hR, .head (step_lone_go ?_) (Steps.trans hsteps (.one (step_leave_returned hleave)))⟩
  rw [stepG_at ha he hp]
  obtain ⟨ops, i, rest, k, h1, h2, h3, h4, h5⟩ := ha
  simp [stepG.apply, hr, h1]

/-- A round of a range over a function, met from whatever frame calls yield. -/
def Rounds (P : Program) (fr0 : Frame) (w : World) (R : Value → World → Prop) : Prop :=
  ∀ (c : Frame) (cs : List Frame), ∃ v w', R v w' ∧ Steps P (lone fr0 (c :: cs) w) (lone (c.finish v) cs w')

theorem does_round {P : Program} {o : Oper} {ρ : Operand → Value} {w w' : World} {l : Nat} {f : FuncId} {tmps : Array Value} {asg body : Code} {R : Value → World → Prop} (hp : Op.plain o.op = true)
    (hr : (execOp ρ o).run P w = .ok (.round l f tmps asg body) w') (h : Rounds P (Frame.round l f tmps asg body .normal) w' R) : OpDoes P o ρ w R := by
  intro fr cs ha he
  obtain ⟨v, w'', hR, hsteps⟩ := h fr cs
  refine ⟨v, w'', hR, .head (step_lone_go ?_) hsteps⟩
  rw [stepG_at ha he hp]
  simp [stepG.apply, hr]

theorem OpDoes.mono {P : Program} {o : Oper} {ρ : Operand → Value} {w : World} {R R' : Value → World → Prop} (h : OpDoes P o ρ w R) (hr : ∀ v w', R v w' → R' v w') : OpDoes P o ρ w R' :=
  fun fr cs ha he => let ⟨v, w', h1, h2⟩ := h fr cs ha he; ⟨v, w', hr v w' h1, h2⟩

/-! ### what the executor of operations owes -/
structure Kept (st st' : St) : Prop where
  tm : st'.tm = st.tm
  n : st'.n = st.n
  df : st'.df = st.df

def Post (q : Nat) (μ : Mu) (st : St) (w : World) (rets : Ret) (v : Value) (w' : World) : Prop :=
  ∃ a st', (a, st') ∈ rets ∧ ∃ μ', Rep q μ' a v ∧ Good μ st w μ' st' w' ∧ HRep q μ' st'.h w' ∧ (∀ id, st'.nx ≤ id → μ' id = none) ∧ Kept st st'

def OpOk (P : Program) (q : Nat) (op : St → (Operand → Option AV) → Oper → Option Ret) : Prop :=
  ∀ st e o rets, op st e o = some rets → ∀ μ w ρ, HRep q μ st.h w → (∀ id, st.nx ≤ id → μ id = none) → EvOk q μ e ρ → OpDoes P o ρ w (Post q μ st w rets)

/-- A value that turns nothing. -/
theorem post_pure {q : Nat} {μ : Mu} {st : St} {w : World} {a : AV} {v : Value} (hr : HRep q μ st.h w) (hf : ∀ id, st.nx ≤ id → μ id = none) (h : Rep q μ a v) : Post q μ st w [(a, st)] v w :=
  ⟨a, st, by simp, μ, h, Good.refl _ _ _, hr, hf, ⟨rfl, rfl, rfl⟩⟩

/-! ### regions in the text's order -/
def guardA (ops : Array Oper) (st : St) (o : Oper) : Option Bool :=
  match o.guard with
  | none => some true
  | some (j, want) => match (ops[j]?).bind (·.dst) with
    | none => some false
    | some d => bif Nat.blt d st.n then
        match (st.tm.at_ d).getD undefA with
        | .bool b => some (b == want)
        | .tup [] => some false
        | _ => none
      else none

def St.putD (st : St) (d : Option Nat) (a : AV) : Option St :=
  match d with
  | none => some st
  | some d => bif Nat.blt d st.n then (st.tm.put d (some a)).seq fun t => some { st with tm := t } else none

theorem guardA_ok {q : Nat} {μ : Mu} {st : St} {tmps : Array Value} {ops : Array Oper} {o : Oper} {b : Bool} (hs : tmps.size = st.n) (ht : TmpR q μ st.tm tmps) (h : guardA ops st o = some b) :
    Region.wanted o (yielded ops tmps) = b := by
  unfold guardA at h
  unfold Region.wanted
  cases hg : o.guard with
  | none => simp [hg] at h; subst h; rfl
  | some g =>
    obtain ⟨j, want⟩ := g
    simp only [hg] at h ⊢
    cases hd : (ops[j]?).bind (·.dst) with
    | none => simp [hd] at h; subst h; simp [yielded, hd]
    | some d =>
      simp only [hd] at h
      cases hb : Nat.blt d st.n with
      | false => simp [hb] at h
      | true =>
        have hlt : d < tmps.size := by rw [hs]; exact blt_lt hb
        have hv : tmps[d]? = some tmps[d] := Array.getElem?_eq_getElem hlt
        have hrep := ht d _ hv
        simp only [hb, cond_true] at h
        split at h
        · rename_i b' hb'
          rw [hb'] at hrep
          simp only [Rep] at hrep
          simp only [Option.some.injEq] at h
          subst h
          simp [yielded, hd, hv, hrep]
        · rename_i hb'
          rw [hb'] at hrep
          simp only [Rep] at hrep
          obtain ⟨vs, hvs, hl⟩ := hrep
          simp only [Option.some.injEq] at h
          subst h
          simp [yielded, hd, hv, hvs]
        · cases h

def doOp (op : St → (Operand → Option AV) → Oper → Option Ret) (ops : Array Oper) (st : St) (o : Oper) : Option (List St) :=
  match guardA ops st o with
  | none => none
  | some false => match st.putD o.dst undefA with | none => none | some s => some [s]
  | some true => match op st (ev st) o with
    | none => none
    | some rets => rets.mapM fun x => x.2.putD o.dst x.1

def bindSt : List St → (St → Option (List St)) → Option (List St)
  | [], _ => some []
  | s :: l, g => match g s, bindSt l g with
    | some a, some b => some (a ++ b)
    | _, _ => none

theorem bindSt_mem : ∀ {l : List St} {g : St → Option (List St)} {o : List St} {s : St}, bindSt l g = some o → s ∈ l → ∃ o1, g s = some o1 ∧ ∀ x ∈ o1, x ∈ o
  | [], _, _, _, _, hm => by simp at hm
  | s' :: l, g, o, s, h, hm => by
    simp only [bindSt] at h
    cases hg : g s' with
    | none => simp [hg] at h
    | some a =>
      cases hl : bindSt l g with
      | none => simp [hg, hl] at h
      | some b =>
        simp only [hg, hl, Option.some.injEq] at h
        subst h
        rcases List.mem_cons.1 hm with e | e
        · subst e; exact ⟨a, hg, fun x hx => List.mem_append.2 (.inl hx)⟩
        · obtain ⟨o3, h1, h2⟩ := bindSt_mem hl e; exact ⟨o3, h1, fun x hx => List.mem_append.2 (.inr (h2 x hx))⟩

def plainOps (op : St → (Operand → Option AV) → Oper → Option Ret) (ops : Array Oper) : List Oper → St → Option (List St)
  | [], st => some [st]
  | o :: l, st => match doOp op ops st o with
    | none => none
    | some ss => bindSt ss (plainOps op ops l)

theorem mem_mapM {α β : Type} {f : α → Option β} : ∀ {l : List α} {l' : List β}, l.mapM f = some l' → ∀ x ∈ l, ∃ y ∈ l', f x = some y
  | [], _, _, x, hx => by simp at hx
  | a :: l, l', h, x, hx => by
    simp only [List.mapM_cons, Option.pure_def, Option.bind_eq_bind, Option.bind_eq_some_iff] at h
    obtain ⟨b, hb, bs, hbs, h⟩ := h
    simp only [Option.some.injEq] at h
    subst h
    rcases List.mem_cons.1 hx with e | e
    · subst e; exact ⟨b, by simp, hb⟩
    · obtain ⟨y, h1, h2⟩ := mem_mapM hbs x e; exact ⟨y, List.mem_cons.2 (.inr h1), h2⟩

def putV (d : Option Nat) (tmps : Array Value) (v : Value) : Array Value :=
  match d with
  | some d => tmps.setIfInBounds d v
  | none => tmps

theorem putD_ok {q : Nat} {μ : Mu} {st st' : St} {tmps : Array Value} {d : Option Nat} {a : AV} {v : Value} (hs : tmps.size = st.n) (ht : TmpR q μ st.tm tmps) (ha : Rep q μ a v) (h : st.putD d a = some st') :
    (putV d tmps v).size = st'.n ∧ TmpR q μ st'.tm (putV d tmps v) ∧ st'.h = st.h ∧ st'.nx = st.nx ∧ st'.df = st.df ∧ ∀ w, Good μ st w μ st' w := by
  cases d with
  | none =>
    simp only [St.putD, Option.some.injEq] at h
    subst h
    exact ⟨hs, ht, rfl, rfl, rfl, fun w => Good.refl _ _ _⟩
  | some d =>
    simp only [St.putD] at h
    cases hb : Nat.blt d st.n with
    | false => simp [hb] at h
    | true =>
      simp only [hb, cond_true, T.seq_eq, Option.some.injEq] at h
      subst h
      refine ⟨by simp [hs, putV], ?_, rfl, rfl, rfl, fun w => Good.tmps _ _ _⟩
      intro i x hx
      simp only [putV] at hx
      simp only [T.at_put]
      by_cases e : i = d
      · subst e
        have hlt : i < tmps.size := by rw [hs]; exact blt_lt hb
        simp only [Array.getElem?_setIfInBounds, hlt, if_true] at hx
        simp at hx
        subst hx
        simpa using ha
      · rw [if_neg e]
        have e' : ¬ d = i := fun h => e h.symm
        simp only [Array.getElem?_setIfInBounds, e', if_false] at hx
        exact ht i x hx

theorem finish_mk {f : FuncId} {r : Option Nat} {tmps : Array Value} {df : List Deferred} {ops : Array Oper} {i : Nat} {rest : List Nat} {k : List Item} {o : Oper} {v : Value} (ho : ops[i]? = some o) :
    (mk f r tmps df (.inRegion ops (i :: rest) :: k)).finish v = mk f r (putV o.dst tmps v) df (.inRegion ops rest :: k) := by
  cases hd : o.dst <;> simp [mk, Frame.finish, ho, hd, putV]

/-- One operation of a region. -/
theorem doOp_ok {P : Program} {q : Nat} {op : St → (Operand → Option AV) → Oper → Option Ret} (hop : OpOk P q op) {ops : Array Oper} {st : St} {o : Oper} {ss : List St} (h : doOp op ops st o = some ss)
    {f : FuncId} {r : Option Nat} {i : Nat} (ho : ops[i]? = some o) {μ : Mu} {tmps : Array Value} {df : List Deferred} {w : World} (hs : SRep q μ st tmps df w) (rest : List Nat) (k : List Item) (cs : List Frame) :
    ∃ st' ∈ ss, ∃ μ' tmps' w', SRep q μ' st' tmps' df w' ∧ Good μ st w μ' st' w' ∧
      Steps P (lone (mk f r tmps df (.inRegion ops (i :: rest) :: k)) cs w) (lone (mk f r tmps' df (.inRegion ops rest :: k)) cs w') := by
  unfold doOp at h
  cases hg : guardA ops st o with
  | none => simp [hg] at h
  | some b =>
    have hw := guardA_ok hs.size hs.tmp hg
    cases b with
    | false =>
      simp only [hg] at h
      cases hp : st.putD o.dst undefA with
      | none => simp [hp] at h
      | some s =>
        simp only [hp, Option.some.injEq] at h
        subst h
        have hu : Rep q μ undefA undef := by simp only [undefA, undef, Rep]; exact ⟨#[], rfl, by simp [RepL]⟩
        obtain ⟨h1, h2, h3, h4, h5, h6⟩ := putD_ok hs.size hs.tmp hu hp
        refine ⟨s, by simp, μ, _, w, ⟨h1, h2, by rw [h5]; exact hs.dfr, by rw [h3]; exact hs.heap, by rw [h4]; exact hs.fresh⟩, h6 w, ?_⟩
        have hst := st_opSkip (P := P) (f := f) (r := r) (tmps := tmps) (df := df) (k := k) (cs := cs) (w := w) (ops := ops) (i := i) (rest := rest) (by simp [ho, hw])
        rw [finish_mk ho] at hst
        exact .one hst
    | true =>
      simp only [hg] at h
      cases hr : op st (ev st) o with
      | none => simp [hr] at h
      | some rets =>
        simp only [hr] at h
        let fr := mk f r tmps df (.inRegion ops (i :: rest) :: k)
        have hat : AtOp o fr := ⟨ops, i, rest, k, rfl, ho, hw, rfl, rfl⟩
        obtain ⟨v, w', ⟨a, st1, hm, μ', hrep, hgood, hheap, hfresh, hk⟩, hsteps⟩ := hop st (ev st) o rets hr μ w fr.eval hs.heap hs.fresh (ev_ok hs.size hs.tmp rfl) fr cs hat (fun _ => rfl)
        obtain ⟨st', hm', hp⟩ := mem_mapM h _ hm
        have hs1 : tmps.size = st1.n := by rw [hk.n]; exact hs.size
        have ht1 : TmpR q μ' st1.tm tmps := by rw [hk.tm]; exact hs.tmp.mono hgood.ext
        obtain ⟨h1, h2, h3, h4, h5, h6⟩ := putD_ok hs1 ht1 hrep hp
        refine ⟨st', hm', μ', _, w', ⟨h1, h2, by rw [h5, hk.df]; exact hs.dfr.mono hgood.ext, by rw [h3]; exact hheap, by rw [h4]; exact hfresh⟩, hgood.trans hs.fresh (h6 w'), ?_⟩
        have hfin : fr.finish v = _ := finish_mk ho
        rw [hfin] at hsteps
        exact hsteps

theorem plainOps_ok {P : Program} {q : Nat} {op : St → (Operand → Option AV) → Oper → Option Ret} (hop : OpOk P q op) {ops : Array Oper} {f : FuncId} {r : Option Nat} :
    ∀ (l : List Oper) (i : Nat) (st : St) (ss : List St), plainOps op ops l st = some ss → (∀ j o, l[j]? = some o → ops[i + j]? = some o) → ∀ μ tmps df w, SRep q μ st tmps df w → ∀ k cs,
    ∃ st' ∈ ss, ∃ μ' tmps' w', SRep q μ' st' tmps' df w' ∧ Good μ st w μ' st' w' ∧
      Steps P (lone (mk f r tmps df (.inRegion ops (List.range' i l.length) :: k)) cs w) (lone (mk f r tmps' df (.inRegion ops [] :: k)) cs w') := by
  intro l
  induction l with
  | nil =>
    intro i st ss h _ μ tmps df w hs k cs
    simp only [plainOps, Option.some.injEq] at h
    subst h
    exact ⟨st, by simp, μ, tmps, w, hs, Good.refl _ _ _, Steps.refl _ _⟩
  | cons o l ih =>
    intro i st ss h hidx μ tmps df w hs k cs
    simp only [plainOps] at h
    cases hd : doOp op ops st o with
    | none => simp [hd] at h
    | some s1 =>
      simp only [hd] at h
      have ho : ops[i]? = some o := hidx 0 o (by simp)
      obtain ⟨st1, hm1, μ1, tmps1, w1, hs1, hg1, hst1⟩ := doOp_ok (f := f) (r := r) hop hd ho hs (List.range' (i + 1) l.length) k cs
      obtain ⟨o1, hp1, hsub⟩ := bindSt_mem h hm1
      obtain ⟨st2, hm2, μ2, tmps2, w2, hs2, hg2, hst2⟩ := ih (i + 1) st1 o1 hp1 (fun j o' hj => by have := hidx (j + 1) o' (by simpa using hj); rw [show i + 1 + j = i + (j + 1) from by omega]; exact this) μ1 tmps1 df w1 hs1 k cs
      exact ⟨st2, hsub _ hm2, μ2, tmps2, w2, hs2, hg1.trans hs.fresh hg2, Steps.trans hst1 hst2⟩

theorem ok_plain {P : Program} {q : Nat} {op : St → (Operand → Option AV) → Oper → Option Ret} (hop : OpOk P q op) {ops : Array Oper} {f : FuncId} {r : Option Nat} {id : Nat} {st : St} {ss : List St}
    (h : plainOps op ops ops.toList st = some ss) : CodeOk P q f r (.region id ops false) st (ss.map fun s => (Jump.normal, s)) := by
  intro μ tmps df w hs k cs
  obtain ⟨st', hm, μ', tmps', w', hs', hg, hst⟩ := plainOps_ok (f := f) (r := r) hop ops.toList 0 st ss h (fun j o hj => by simpa using hj) μ tmps df w hs k cs
  refine ⟨.normal, st', List.mem_map.2 ⟨st', hm, rfl⟩, μ', tmps', df, w', hs', hg, .head st_region ?_⟩
  have e : List.range ops.size = List.range' 0 ops.toList.length := by rw [List.range_eq_range']; simp
  rw [e]
  exact Steps.trans hst (.one st_regionEnd)

end Go.Proofs.YtdkcihleblbkaaaGreatDoor.Eng

/- A verified symbolic executor, part 5: code, and calls of functions. The lemmas hold of every program; no project text. -/
namespace Go.Proofs.YtdkcihleblbkaaaGreatDoor.Eng
set_option linter.unusedVariables false
set_option linter.unusedSimpArgs false
set_option linter.unusedSectionVars false
open Go

structure X where
  op : St → (Operand → Option AV) → Oper → Option Ret
  drawn : Array Oper → St → Option (List St)
  rng : Operand → Array Tmp → Code → Code → St → Option Out
  fuel : Nat

def exec (x : X) : Code → St → Option Out
  | .skip, st => some [(.normal, st)]
  | .label _, st => some [(.normal, st)]
  | .region _ ops draw, st => match (bif draw then x.drawn ops st else plainOps x.op ops ops.toList st) with
    | none => none
    | some ss => some (ss.map fun s => (.normal, s))
  | .seq a b, st => match exec x a st with
    | none => none
    | some o => bindOut o (exec x b)
  | .cond c a b, st => match ev st c with
    | some (.bool t) => bif t then exec x a st else exec x b st
    | some .ubool => match exec x a st, exec x b st with
      | some oa, some ob => some (oa ++ ob)
      | _, _ => none
    | _ => none
  | .block id b, st => match exec x b st with
    | none => none
    | some o => some (outBlock id o)
  | .loop b, st => iter (exec x b) x.fuel st
  | .rangeFunc f params asg body, st => x.rng f params asg body st
  | .exit id, st => some [(.exit id, st)]
  | .scope b, st => exec x b st
  | .goto _, _ => none
  | .ret, st => some [(.ret, st)]
  | .refuse _, _ => none

structure XOk (P : Program) (q : Nat) (f : FuncId) (r : Option Nat) (x : X) : Prop where
  op : OpOk P q x.op
  drawn : ∀ ops st ss, x.drawn ops st = some ss → ∀ id, CodeOk P q f r (.region id ops true) st (ss.map fun s => (Jump.normal, s))
  rng : ∀ g params asg body st o, x.rng g params asg body st = some o → CodeOk P q f r (.rangeFunc g params asg body) st o

theorem eval_mk {f : FuncId} {r : Option Nat} {tmps : Array Value} {df : List Deferred} {k k' : List Item} (x : Operand) : (mk f r tmps df k).eval x = (mk f r tmps df k').eval x := by cases x <;> rfl

theorem exec_ok {P : Program} {q : Nat} {f : FuncId} {r : Option Nat} {x : X} (hx : XOk P q f r x) : ∀ (c : Code) (st : St) (o : Out), exec x c st = some o → CodeOk P q f r c st o := by
  intro c
  induction c with
  | skip => intro st o h; simp only [exec, Option.some.injEq] at h; subst h; exact ok_skip
  | label l => intro st o h; simp only [exec, Option.some.injEq] at h; subst h; exact ok_label
  | region id ops draw =>
    intro st o h
    cases draw with
    | true =>
      simp only [exec, cond_true] at h
      cases hd : x.drawn ops st with
      | none => simp [hd] at h
      | some ss => simp only [hd, Option.some.injEq] at h; subst h; exact hx.drawn ops st ss hd id
    | false =>
      simp only [exec, cond_false] at h
      cases hd : plainOps x.op ops ops.toList st with
      | none => simp [hd] at h
      | some ss => simp only [hd, Option.some.injEq] at h; subst h; exact ok_plain hx.op hd
  | seq a b iha ihb =>
    intro st o h
    simp only [exec] at h
    cases ha : exec x a st with
    | none => simp [ha] at h
    | some o1 => simp only [ha] at h; exact ok_seq (iha st o1 ha) h fun s o2 h2 => ihb s o2 h2
  | cond c a b iha ihb =>
    intro st o h
    simp only [exec] at h
    split at h
    · rename_i t hc
      refine ok_cond (t := t) (fun μ tmps df w hs => ?_) ?_
      · have := ev_ok (fr := mk f r tmps df []) hs.size hs.tmp rfl c _ hc
        simpa [Rep] using this
      · cases t with
        | true => exact iha st o (by simpa using h)
        | false => exact ihb st o (by simpa using h)
    · rename_i hc
      split at h
      · rename_i oa ob h1 h2
        simp only [Option.some.injEq] at h
        subst h
        refine ok_cond2 (fun μ tmps df w hs => ?_) (iha st oa h1) (ihb st ob h2)
        have := ev_ok (fr := mk f r tmps df []) hs.size hs.tmp rfl c _ hc
        simpa [Rep] using this
      · cases h
    · cases h
  | block id b ih =>
    intro st o h
    simp only [exec] at h
    cases hb : exec x b st with
    | none => simp [hb] at h
    | some o1 => simp only [hb, Option.some.injEq] at h; subst h; exact ok_block (ih st o1 hb)
  | loop b ih => intro st o h; exact ok_loop (fun s o' h' => ih s o' h') h
  | rangeFunc g params asg body _ _ => intro st o h; exact hx.rng g params asg body st o h
  | exit id => intro st o h; simp only [exec, Option.some.injEq] at h; subst h; exact ok_exit
  | scope b ih => intro st o h; exact ok_scope (ih st o h)
  | goto l => intro st o h; simp [exec] at h
  | ret => intro st o h; simp only [exec, Option.some.injEq] at h; subst h; exact ok_ret
  | refuse w => intro st o h; simp [exec] at h

/-! ### values without pointers; readings carried back -/
mutual
def AV.free : AV → Bool
  | .ptr .. | .sl .. | .map _ | .fn .. | .yld _ | .ptrq .. => false
  | .ifc _ v => v.free
  | .ifq _ a b => a.free && b.free
  | .agg l | .tup l => freeL l
  | _ => true
def freeL : List AV → Bool
  | [] => true
  | a :: l => a.free && freeL l
end

mutual
theorem Rep.of_free {q : Nat} {μ μ' : Mu} : ∀ (a : AV) (v : Value), a.free = true → Rep q μ' a v → Rep q μ a v
  | .any, _, _, _ => by simp [Rep]
  | .bool _, _, _, r => by simpa [Rep] using r
  | .ubool, _, _, r => by simpa [Rep] using r
  | .int _ _, _, _, r => by simpa [Rep] using r
  | .aint _ _ _, _, _, r => by simpa [Rep] using r
  | .intq _ _, _, _, r => by simpa [Rep] using r
  | .str _, _, _, r => by simpa [Rep] using r
  | .astr _ _, _, _, r => by simpa [Rep] using r
  | .ptr0, _, _, r => by simpa [Rep] using r
  | .sl0, _, _, r => by simpa [Rep] using r
  | .map0, _, _, r => by simpa [Rep] using r
  | .fn0, _, _, r => by simpa [Rep] using r
  | .ifc0, _, _, r => by simpa [Rep] using r
  | .ifc t a, v, h, r => by
    simp only [Rep, AV.free] at r h ⊢
    obtain ⟨x, hv, hx⟩ := r
    exact ⟨x, hv, Rep.of_free a x h hx⟩
  | .ifq j a b, v, h, r => by
    simp only [Rep, AV.free, Bool.and_eq_true] at r h ⊢
    exact ⟨fun e => Rep.of_free a v h.1 (r.1 e), fun e => Rep.of_free b v h.2 (r.2 e)⟩
  | .agg l, v, h, r => by
    simp only [Rep, AV.free] at r h ⊢
    obtain ⟨x, hv, hx⟩ := r
    exact ⟨x, hv, RepL.of_free l _ h hx⟩
  | .tup l, v, h, r => by
    simp only [Rep, AV.free] at r h ⊢
    obtain ⟨x, hv, hx⟩ := r
    exact ⟨x, hv, RepL.of_free l _ h hx⟩
  | .ptr .., _, h, _ => by simp [AV.free] at h
  | .sl .., _, h, _ => by simp [AV.free] at h
  | .map _, _, h, _ => by simp [AV.free] at h
  | .fn .., _, h, _ => by simp [AV.free] at h
  | .yld _, _, h, _ => by simp [AV.free] at h
  | .ptrq .., _, h, _ => by simp [AV.free] at h
theorem RepL.of_free {q : Nat} {μ μ' : Mu} : ∀ (a : List AV) (v : List Value), freeL a = true → RepL q μ' a v → RepL q μ a v
  | [], [], _, _ => by simp [RepL]
  | a :: l, v :: vs, h, r => by
    simp only [RepL, freeL, Bool.and_eq_true] at r h ⊢
    exact ⟨Rep.of_free a v h.1 r.1, RepL.of_free l vs h.2 r.2⟩
  | [], _ :: _, _, r => by simp [RepL] at r
  | _ :: _, [], _, r => by simp [RepL] at r
end

theorem ext_back {μ μ' : Mu} (h : Ext μ μ') {id : Nat} {l l' : Loc} (h1 : μ id = some l) (h2 : μ' id = some l') : l = l' := by
  have := h id l h1
  rw [h2] at this
  exact (Option.some.inj this).symm

mutual
/-- What a wider map says of a value whose ids the narrower one knows. -/
theorem Rep.back {q : Nat} {μ μ' : Mu} (h : Ext μ μ') : ∀ (a : AV) (v v0 : Value), Rep q μ a v0 → Rep q μ' a v → Rep q μ a v
  | .any, _, _, _, _ => by simp [Rep]
  | .bool _, _, _, _, r => by simpa [Rep] using r
  | .ubool, _, _, _, r => by simpa [Rep] using r
  | .int _ _, _, _, _, r => by simpa [Rep] using r
  | .aint _ _ _, _, _, _, r => by simpa [Rep] using r
  | .intq _ _, _, _, _, r => by simpa [Rep] using r
  | .str _, _, _, _, r => by simpa [Rep] using r
  | .astr _ _, _, _, _, r => by simpa [Rep] using r
  | .ptr0, _, _, _, r => by simpa [Rep] using r
  | .sl0, _, _, _, r => by simpa [Rep] using r
  | .map0, _, _, _, r => by simpa [Rep] using r
  | .fn0, _, _, _, r => by simpa [Rep] using r
  | .ifc0, _, _, _, r => by simpa [Rep] using r
  | .ptr id off, v, v0, r0, r => by
    simp only [Rep] at r r0 ⊢
    obtain ⟨l, hl, hv⟩ := r
    obtain ⟨l0, hl0, _⟩ := r0
    obtain rfl := ext_back h hl0 hl
    exact ⟨_, hl0, hv⟩
  | .sl id off len cap es, v, v0, r0, r => by
    simp only [Rep] at r r0 ⊢
    obtain ⟨l, c, hl, hv⟩ := r
    obtain ⟨l0, c0, hl0, _⟩ := r0
    obtain rfl := ext_back h hl0 hl
    exact ⟨_, c, hl0, hv⟩
  | .map id, v, v0, r0, r => by
    simp only [Rep] at r r0 ⊢
    obtain ⟨l, hl, hv⟩ := r
    obtain ⟨l0, hl0, _⟩ := r0
    obtain rfl := ext_back h hl0 hl
    exact ⟨_, hl0, hv⟩
  | .yld id, v, v0, r0, r => by
    simp only [Rep] at r r0 ⊢
    obtain ⟨l, hl, hv⟩ := r
    obtain ⟨l0, hl0, _⟩ := r0
    obtain rfl := ext_back h hl0 hl
    exact ⟨_, hl0, hv⟩
  | .fn f a b, v, v0, r0, r => by
    simp only [Rep] at r r0 ⊢
    obtain ⟨a', b', hv, ha, hb⟩ := r
    obtain ⟨a0, b0, _, ha0, hb0⟩ := r0
    exact ⟨a', b', hv, RepL.back h a _ _ ha0 ha, RepL.back h b _ _ hb0 hb⟩
  | .ifc t a, v, v0, r0, r => by
    simp only [Rep] at r r0 ⊢
    obtain ⟨x, hv, hx⟩ := r
    obtain ⟨x0, _, hx0⟩ := r0
    exact ⟨x, hv, Rep.back h a x x0 hx0 hx⟩
  | .ifq j a b, v, v0, r0, r => by
    simp only [Rep] at r r0 ⊢
    exact ⟨fun e => Rep.back h a v v0 (r0.1 e) (r.1 e), fun e => Rep.back h b v v0 (r0.2 e) (r.2 e)⟩
  | .ptrq id off, v, v0, r0, r => by
    simp only [Rep] at r r0 ⊢
    obtain ⟨l, hl, hv⟩ := r
    obtain ⟨l0, hl0, _⟩ := r0
    obtain rfl := ext_back h hl0 hl
    exact ⟨_, hl0, hv⟩
  | .agg l, v, v0, r0, r => by
    simp only [Rep] at r r0 ⊢
    obtain ⟨x, hv, hx⟩ := r
    obtain ⟨x0, _, hx0⟩ := r0
    exact ⟨x, hv, RepL.back h l _ _ hx0 hx⟩
  | .tup l, v, v0, r0, r => by
    simp only [Rep] at r r0 ⊢
    obtain ⟨x, hv, hx⟩ := r
    obtain ⟨x0, _, hx0⟩ := r0
    exact ⟨x, hv, RepL.back h l _ _ hx0 hx⟩
theorem RepL.back {q : Nat} {μ μ' : Mu} (h : Ext μ μ') : ∀ (a : List AV) (v v0 : List Value), RepL q μ a v0 → RepL q μ' a v → RepL q μ a v
  | [], [], _, _, _ => by simp [RepL]
  | a :: l, v :: vs, v0 :: vs0, r0, r => by
    simp only [RepL] at r r0 ⊢
    exact ⟨Rep.back h a v v0 r0.1 r.1, RepL.back h l vs vs0 r0.2 r.2⟩
  | _ :: _, _ :: _, [], r0, _ => by simp [RepL] at r0
  | [], _ :: _, _, _, r => by simp [RepL] at r
  | _ :: _, [], _, _, r => by simp [RepL] at r
end

theorem MapR.back {q : Nat} {μ μ' : Mu} (h : Ext μ μ') : ∀ {a : List (AV × AV)} {v v0 : List MapEntry}, MapR q μ a v0 → MapR q μ' a v → MapR q μ a v
  | [], [], _, _, _ => by simp [MapR]
  | a :: l, e :: es, e0 :: es0, r0, r => by
    simp only [MapR] at r r0 ⊢
    exact ⟨Rep.back h _ _ _ r0.1 r.1, Rep.back h _ _ _ r0.2.1 r.2.1, MapR.back h r0.2.2 r.2.2⟩
  | _ :: _, _ :: _, [], r0, _ => by simp [MapR] at r0
  | [], _ :: _, _, _, r => by simp [MapR] at r
  | _ :: _, [], _, _, r => by simp [MapR] at r

theorem Blk.back {q : Nat} {μ μ' : Mu} (h : Ext μ μ') {b : ABlk} {l : Loc} {o o0 : Obj} (r0 : Blk q μ b l o0) (r : Blk q μ' b l o) : Blk q μ b l o := by
  cases b with
  | row et cells opn b0 fz sm =>
    obtain ⟨c, fr, h1, h2, h3, h4, h5, h6, h7⟩ := r
    obtain ⟨c0, fr0, _, _, _, _, _, k6, _⟩ := r0
    refine ⟨c, fr, h1, h2, h3, h4, h5, fun i a ha => ?_, h7⟩
    obtain ⟨v, hv, hr⟩ := h6 i a ha
    obtain ⟨v0, _, hr0⟩ := k6 i a ha
    exact ⟨v, hv, Rep.back h a v v0 hr0 hr⟩
  | map es =>
    obtain ⟨e, clk, h1, h2⟩ := r
    obtain ⟨e0, _, _, k2⟩ := r0
    exact ⟨e, clk, h1, MapR.back h k2 h2⟩
  | iter m =>
    obtain ⟨b0, ml, s, t, h1, h2⟩ := r
    obtain ⟨_, ml0, _, _, k1, _⟩ := r0
    obtain rfl := ext_back h k1 h1
    exact ⟨b0, _, s, t, k1, h2⟩
  | loop f n tm params asg body st pend d =>
    obtain ⟨tmps, dl, h1, h2, h3, h4⟩ := r
    obtain ⟨tmps0, dl0, k1, k2, k3, _⟩ := r0
    obtain rfl := ext_back h k1 h1
    refine ⟨tmps, _, k1, h2, fun i v hv => ?_, h4⟩
    have hlt : i < tmps0.size := by
      have := (Array.getElem?_eq_some_iff.1 hv).1
      omega
    exact Rep.back h _ v _ (k3 i _ (Array.getElem?_eq_getElem hlt)) (h3 i v hv)
  | dfr t => exact r

theorem HRep.back {q : Nat} {μ μ' : Mu} {h h' : T ABlk} {w w' : World} (he : Ext μ μ') (hr : HRep q μ h w) (hr' : HRep q μ' h' w') (hk : ∀ id l, μ id = some l → h.at_ id ≠ none → h'.at_ id = h.at_ id) : HRep q μ h w' := by
  refine ⟨fun id b l hb h1 => ?_, hr.inj⟩
  obtain ⟨o0, _, h3⟩ := hr.obj id b l hb h1
  obtain ⟨o, k2, k3⟩ := hr'.obj id b l (by rw [hk id l h1 (by rw [hb]; simp)]; exact hb) (he _ _ h1)
  exact ⟨o, k2, Blk.back he h3 k3⟩

end Go.Proofs.YtdkcihleblbkaaaGreatDoor.Eng

/- A verified symbolic executor, part 6: calls of functions. The lemmas hold of every program; no project text. -/
namespace Go.Proofs.YtdkcihleblbkaaaGreatDoor.Eng
set_option linter.unusedVariables false
set_option linter.unusedSimpArgs false
set_option linter.unusedSectionVars false
open Go

/-- What is said of a called function and the outcomes that the executor gives. -/
def CallOk (P : Program) (q : Nat) (cf : FuncId → List AV → St → Option Ret) : Prop :=
  ∀ k args st rets, cf k args st = some rets → ∀ μ w (argsV : Array Value), HRep q μ st.h w → (∀ id, st.nx ≤ id → μ id = none) → RepL q μ args argsV.toList →
    Calls P k argsV w fun e w' => ∃ v, e = .returned v ∧ Post q μ st w rets v w'

def tmOf : List AV → Nat → T AV → T AV
  | [], _, t => t
  | a :: l, i, t => (t.put i (some a)).seq fun t' => tmOf l (i + 1) t'

theorem tmOf_at : ∀ (l : List AV) (i : Nat) (t : T AV) (j : Nat), (tmOf l i t).at_ j = if i ≤ j ∧ j - i < l.length then l[j - i]? else t.at_ j
  | [], i, t, j => by simp [tmOf]
  | a :: l, i, t, j => by
    simp only [tmOf, T.seq_eq]
    rw [tmOf_at l (i + 1) _ j, T.at_put]
    by_cases h1 : i + 1 ≤ j ∧ j - (i + 1) < l.length
    · rw [if_pos h1, if_pos (by simp; omega)]
      have e : j - i = (j - (i + 1)) + 1 := by omega
      rw [e, List.getElem?_cons_succ]
    · rw [if_neg h1]
      by_cases e : j = i
      · subst e; simp
      · rw [if_neg e, if_neg (by simp; omega)]

def entrySt (args : List AV) (nt : Nat) (st : St) : St :=
  { tm := tmOf args 0 .leaf, n := args.length + (nt - args.length), df := [], h := st.h, nx := st.nx, ro := st.ro, wl := st.wl, mw := st.nx }

theorem entry_rep {q : Nat} {μ : Mu} {st : St} {w : World} {args : List AV} {argsV : Array Value} {nt : Nat} (hr : HRep q μ st.h w) (hf : ∀ id, st.nx ≤ id → μ id = none) (ha : RepL q μ args argsV.toList) :
    SRep q μ (entrySt args nt st) (argsV ++ Array.replicate (nt - argsV.size) undef) [] w := by
  have hl : args.length = argsV.size := by rw [ha.length]; simp
  refine ⟨by simp [entrySt, hl], ?_, by simp [entrySt, DefR], hr, hf⟩
  intro i v hv
  simp only [entrySt]
  rw [tmOf_at]
  simp only [Nat.zero_le, true_and, Nat.sub_zero]
  by_cases h : i < args.length
  · rw [if_pos h, List.getElem?_eq_getElem h]
    rw [Array.getElem?_append_left (by omega)] at hv
    obtain ⟨y, hy, hrep⟩ := ha.get i args[i] (List.getElem?_eq_getElem h)
    rw [← Array.getElem?_toList] at hv
    rw [hy] at hv
    obtain rfl := Option.some.inj hv
    exact hrep
  · rw [if_neg h, T.at_leaf]
    rw [Array.getElem?_append_right (by omega)] at hv
    have hu : v = undef := by
      have := Array.mem_of_getElem? hv
      exact Array.eq_of_mem_replicate this
    subst hu
    simp only [Option.getD_none, undefA, undef, Rep]
    exact ⟨#[], rfl, by simp [RepL]⟩

/-! ### the results -/
theorem ev_tmp {q : Nat} {μ : Mu} {st : St} {tmps : Array Value} {t : Nat} {a : AV} (hs : tmps.size = st.n) (ht : TmpR q μ st.tm tmps) (h : ev st (.tmp t) = some a) : Rep q μ a (tmps.getD t undef) :=
  ev_ok (fr := mk 0 none tmps [] []) hs ht rfl (.tmp t) a h

/-- What is asked of the reading of a function's results. -/
def ResOk (P : Program) (q : Nat) (res : List ResultVar → St → Option AV) : Prop :=
  ∀ (fn : Func) (st : St) (a : AV), res fn.results.toList st = some a → ∀ (μ : Mu) (tmps : Array Value) (w : World), tmps.size = st.n → TmpR q μ st.tm tmps → HRep q μ st.h w →
    ∃ v, (results fn tmps).run P w = .ok v w ∧ Rep q μ a v

/-! ### the marks of range loops among the deferred calls -/
def closeDf : List Nat → St → Option St
  | [], st => some st
  | id :: l, st => match st.h.at_ id with
    | some (.dfr true) => bif st.canW id then closeDf l (st.turn id (.dfr false)) else none
    | _ => none

theorem st_collected {P : Program} {f : FuncId} {r : Option Nat} {tmps : Array Value} {ds : List Deferred} {todo : List Item} {cs : List Frame} {w : World} {b : Nat} (h : w.heap[b]? = some (.deferred (some []))) :
    step P (lone { mk f r tmps ({ target := .collected b, args := #[] } :: ds) todo with mode := .returning } cs w) =
      .next (lone { mk f r tmps ds todo with mode := .returning } cs { w with heap := w.heap.setIfInBounds b (.deferred none) }) := by
  refine step_lone_go ?_
  simp [stepG, unwind, mk, Instr.takeDeferred, getObj, setObj, Sem.run, bind, Sem.bind, pure, h]

theorem closeDf_ok {P : Program} {q : Nat} {f : FuncId} {r : Option Nat} {tmps : Array Value} {todo : List Item} {cs : List Frame} : ∀ (l : List Nat) (st st' : St), closeDf l st = some st' →
    ∀ μ (df : List Deferred) w, HRep q μ st.h w → (∀ id, st.nx ≤ id → μ id = none) → DefR μ l df →
    ∃ w', Steps P (lone { mk f r tmps df todo with mode := .returning } cs w) (lone { mk f r tmps [] todo with mode := .returning } cs w') ∧ Good μ st w μ st' w' ∧ HRep q μ st'.h w' ∧ st'.nx = st.nx ∧ st'.tm = st.tm ∧ st'.n = st.n
  | [], st, st', h, μ, df, w, hr, hf, hd => by
    simp only [closeDf, Option.some.injEq] at h
    subst h
    cases df with
    | nil => exact ⟨w, Steps.refl _ _, Good.refl _ _ _, hr, rfl, rfl, rfl⟩
    | cons d ds => simp [DefR] at hd
  | id :: l, st, st', h, μ, df, w, hr, hf, hd => by
    cases df with
    | nil => simp [DefR] at hd
    | cons d ds =>
      simp only [DefR] at hd
      obtain ⟨⟨lc, hlc, rfl⟩, hds⟩ := hd
      simp only [closeDf] at h
      split at h
      · rename_i hat
        cases hw : st.canW id with
        | false => simp [hw] at h
        | true =>
          simp only [hw, cond_true] at h
          obtain ⟨o, h2, h3⟩ := hr.obj id _ _ hat hlc
          simp only [Blk, if_true] at h3
          subst h3
          have hlt := (Array.getElem?_eq_some_iff.1 h2).1
          have ht := turn_ok (μ := μ) (st := st) (w := w) (w' := { w with heap := w.heap.setIfInBounds lc.blk (.deferred none) }) (o := .deferred none) (b := .dfr false) (id := id) (l := lc) hr (by rw [hat]; simp) hw hlc
            (by simp [Blk]) rfl rfl rfl (by simp) (by simp [hlt]) (fun k hk => Array.getElem?_setIfInBounds_ne (fun e => hk e.symm))
          obtain ⟨w', hs, hg, hh, e1, e2, e3⟩ := closeDf_ok (P := P) (f := f) (r := r) (tmps := tmps) (todo := todo) (cs := cs) l (st.turn id (.dfr false)) st' h μ ds _ ht.2 hf hds
          exact ⟨w', .head (st_collected h2) hs, ht.1.trans hf hg, hh, e1, e2, e3⟩
      · cases h

/-! ### a function's body as a call -/
def finishCall (res : List ResultVar → St → Option AV) (fn : Func) (st : St) (x : Jump × St) : Option (AV × St) :=
  match x.1 with
  | .exit _ => none
  | _ => match closeDf x.2.df x.2 with
    | none => none
    | some s => match res fn.results.toList s with
      | none => none
      | some a => bif a.free && Nat.ble st.nx s.mw then some (a, st)
        else some (a, { st with h := s.h, nx := s.nx, mw := min st.mw s.mw })

def runBody (res : List ResultVar → St → Option AV) (ex : St → Option Out) (fn : Func) (args : List AV) (st : St) : Option Ret :=
  match ex (entrySt args fn.ntmps st) with
  | none => none
  | some outs => outs.mapM (finishCall res fn st)

theorem st_leave_end {P : Program} {f : FuncId} {tmps : Array Value} {df : List Deferred} {cs : List Frame} {w : World} :
    step P (lone (mk f none tmps df []) cs w) = .next (lone { mk f none tmps df [] with mode := .returning } cs w) := step_lone_go (by simp [stepG, stepG.exec, mk])
theorem st_leave_ret {P : Program} {f : FuncId} {tmps : Array Value} {df : List Deferred} {k : List Item} {cs : List Frame} {w : World} :
    step P (lone (mk f none tmps df (.code .ret :: k)) cs w) = .next (lone { mk f none tmps df (.code .ret :: k) with mode := .returning } cs w) := step_lone_go (by simp [stepG, stepG.exec, mk])

theorem good_call {q : Nat} {μ μ' : Mu} {st s : St} {w w' : World} {args : List AV} {nt : Nat} (g : Good μ (entrySt args nt st) w μ' s w') (hr : HRep q μ st.h w) (hf : ∀ id, st.nx ≤ id → μ id = none) (hh : HRep q μ' s.h w') (hfr : ∀ id, s.nx ≤ id → μ' id = none)
    {a : AV} {v : Value} (ha : Rep q μ' a v) {x : AV × St} (hx : (bif a.free && Nat.ble st.nx s.mw then some (a, st) else some (a, { st with h := s.h, nx := s.nx, mw := min st.mw s.mw })) = some x) :
    ∃ μ'', Rep q μ'' x.1 v ∧ Good μ st w μ'' x.2 w' ∧ HRep q μ'' x.2.h w' ∧ (∀ id, x.2.nx ≤ id → μ'' id = none) ∧ Kept st x.2 := by
  have hwr : ∀ b, Wr μ (entrySt args nt st) b ↔ Wr μ st b := fun b => Iff.rfl
  cases hc : (a.free && Nat.ble st.nx s.mw) with
  | true =>
    simp only [hc, cond_true, Option.some.injEq] at hx
    subst hx
    simp only [Bool.and_eq_true, Nat.ble_eq] at hc
    have hkeep : ∀ id l, μ id = some l → st.h.at_ id ≠ none → s.h.at_ id = st.h.at_ id := by
      intro id l hl hid
      have hlt : id < st.nx := by
        by_cases h : id < st.nx
        · exact h
        · rw [hf id (by omega)] at hl
          cases hl
      exact g.keep id hlt (by omega)
    refine ⟨μ, Rep.of_free a v hc.1 ha, ⟨Ext.refl _, Nat.le_refl _, rfl, rfl, Nat.le_refl _, g.os, g.tape, g.output, g.size, fun b hb hn => g.frame b hb hn, fun _ _ h h' => by simp [h'] at h, fun _ _ h => h, fun _ _ _ => rfl, fun _ _ => rfl⟩,
      HRep.back g.ext hr hh hkeep, hf, ⟨rfl, rfl, rfl⟩⟩
  | false =>
    simp only [hc, cond_false, Option.some.injEq] at hx
    subst hx
    refine ⟨μ', ha, ⟨g.ext, g.nx, rfl, rfl, Nat.min_le_left _ _, g.os, g.tape, g.output, g.size, fun b hb hn => g.frame b hb hn, g.new, fun id hid h => g.live id hid h, fun id hid h => g.keep id hid ?_, fun id hid => g.low id hid⟩, hh, hfr, ⟨rfl, rfl, rfl⟩⟩
    simp only at h
    omega

theorem runBody_ok {P : Program} {q : Nat} {k : FuncId} {fn : Func} {c : Code} {res : List ResultVar → St → Option AV} {ex : St → Option Out} (hres : ResOk P q res) (hfn : P.funcs[k]? = some fn) (hbody : fn.body = some c) (hex : ∀ s o, ex s = some o → CodeOk P q k none c s o)
    {args : List AV} {st : St} {rets : Ret} (h : runBody res ex fn args st = some rets) {μ : Mu} {w : World} {argsV : Array Value} (hr : HRep q μ st.h w) (hf : ∀ id, st.nx ≤ id → μ id = none) (ha : RepL q μ args argsV.toList) :
    Calls P k argsV w fun e w' => ∃ v, e = .returned v ∧ Post q μ st w rets v w' := by
  unfold runBody at h
  cases he : ex (entrySt args fn.ntmps st) with
  | none => simp [he] at h
  | some outs =>
    simp only [he] at h
    intro cs
    have henter : Frame.enter P k argsV .normal = mk k none (argsV ++ Array.replicate (fn.ntmps - argsV.size) undef) [] [.code c] := by
      simp [Frame.enter, mk, hfn, hbody]
    obtain ⟨j, s1, hm, μ', tmps', df', w', hs', hg, harr⟩ := hex _ outs he μ _ _ w (entry_rep (nt := fn.ntmps) hr hf ha) [] cs
    rw [← henter] at harr
    obtain ⟨x, hx, hfin⟩ := mem_mapM h _ hm
    -- to the frame that is returning
    have hret : ∃ todo, Steps P (lone (Frame.enter P k argsV .normal) cs w) (lone { mk k none tmps' df' todo with mode := .returning } cs w') := by
      cases j with
      | normal => exact ⟨[], Steps.trans harr (.one st_leave_end)⟩
      | exit id => simp [finishCall] at hfin
      | ret => obtain ⟨k0, h0⟩ := harr; exact ⟨_, Steps.trans h0 (.one st_leave_ret)⟩
    obtain ⟨todo, hst⟩ := hret
    have hfin' : (match closeDf s1.df s1 with
        | none => none
        | some s => match res fn.results.toList s with
          | none => none
          | some a => bif a.free && Nat.ble st.nx s.mw then some (a, st) else some (a, { st with h := s.h, nx := s.nx, mw := min st.mw s.mw })) = some x := by
      cases j with
      | normal => exact hfin
      | exit id => simp [finishCall] at hfin
      | ret => exact hfin
    clear hfin
    cases hcl : closeDf s1.df s1 with
    | none => simp [hcl] at hfin'
    | some s =>
      simp only [hcl] at hfin'
      cases hra : res fn.results.toList s with
      | none => simp [hra] at hfin'
      | some a =>
        simp only [hra] at hfin'
        obtain ⟨w2, hst2, hg2, hh2, e1, e2, e3⟩ := closeDf_ok (P := P) (f := k) (r := none) (tmps := tmps') (todo := todo) (cs := cs) s1.df s1 s hcl μ' df' w' hs'.heap hs'.fresh hs'.dfr
        have hs2 : tmps'.size = s.n := by rw [e3]; exact hs'.size
        have ht2 : TmpR q μ' s.tm tmps' := by rw [e2]; exact hs'.tmp
        obtain ⟨v, hrun, hrep⟩ := hres fn s a hra μ' tmps' w2 hs2 ht2 hh2
        have hfr2 : ∀ id, s.nx ≤ id → μ' id = none := by rw [e1]; exact hs'.fresh
        obtain ⟨μ'', p1, p2, p3, p4, p5⟩ := good_call (hg.trans hf hg2) hr hf hh2 hfr2 hrep hfin'
        exact ⟨.returned v, w2, { mk k none tmps' [] todo with mode := .returning }, ⟨v, rfl, x.1, x.2, hx, μ'', p1, p2, p3, p4, p5⟩, Steps.trans hst hst2, rfl, rfl, rfl, rfl, fn, hfn, hrun⟩

end Go.Proofs.YtdkcihleblbkaaaGreatDoor.Eng

/- A verified symbolic executor, part 7: a range over a function, and its rounds. The lemmas hold of every program; no project text. -/
namespace Go.Proofs.YtdkcihleblbkaaaGreatDoor.Eng
set_option linter.unusedVariables false
set_option linter.unusedSimpArgs false
set_option linter.unusedSectionVars false
open Go

/-- Function k is entered by a call (it has a body here). -/
def Enters (P : Program) (k : FuncId) : Prop := ∀ (args : Array Value) (w : World), (callFunc k args).run P w = .ok (.enter k args) w

section moves
variable {P : Program} {f : FuncId} {tmps : Array Value} {df : List Deferred} {k : List Item} {cs : List Frame} {c : Frame} {w : World} {l : Nat} {rc : Loop}

def World.put (w : World) (b : Nat) (o : Obj) : World := { w with heap := w.heap.setIfInBounds b o }

theorem st_beginRound (h : w.heap[l]? = some (.loop rc)) (hs : rc.state = .ready) :
    step P (lone (mk f (some l) tmps df (.beginRound :: k)) cs w) = .next (lone (mk f (some l) tmps df k) cs (World.put w l (.loop { rc with state := .busy }))) := by
  refine step_lone_go ?_
  simp [stepG, stepG.exec, stepG.apply, mk, Instr.beginRound, Instr.getLoop, getObj, setObj, Sem.run, bind, Sem.bind, pure, h, hs, Frame.finish, World.put]

theorem st_endRound (h : w.heap[l]? = some (.loop rc)) :
    step P (lone (mk f (some l) tmps [] []) (c :: cs) w) = .next (lone (c.finish (.bool true)) cs (World.put w l (.loop { rc with state := .ready, pending := none }))) := by
  refine step_lone_go ?_
  simp [stepG, stepG.exec, mk, Instr.endRound, Instr.getLoop, getObj, setObj, Sem.run, bind, Sem.bind, pure, h, World.put, doReturn]

theorem st_endRound_exit {id : Nat} {k0 : List Item} (hk : exitTo id k0 = none) (h : w.heap[l]? = some (.loop rc)) :
    step P (lone (mk f (some l) tmps [] (.code (.exit id) :: k0)) (c :: cs) w) = .next (lone (c.finish (.bool false)) cs (World.put w l (.loop { rc with state := .done, pending := some (.exit id) }))) := by
  refine step_lone_go ?_
  simp [stepG, stepG.exec, mk, Instr.endRound, Instr.getLoop, getObj, setObj, Sem.run, bind, Sem.bind, pure, h, World.put, doReturn, hk]

theorem st_endRound_ret {k0 : List Item} (h : w.heap[l]? = some (.loop rc)) :
    step P (lone (mk f (some l) tmps [] (.code .ret :: k0)) (c :: cs) w) = .next (lone (c.finish (.bool false)) cs (World.put w l (.loop { rc with state := .done, pending := some .ret }))) := by
  refine step_lone_go ?_
  simp [stepG, stepG.exec, mk, Instr.endRound, Instr.getLoop, getObj, setObj, Sem.run, bind, Sem.bind, pure, h, World.put, doReturn]

theorem st_rangeFunc {g : Operand} {params : Array Tmp} {asg body : Code} {kf : FuncId} {first cap : Array Value} (hg : (mk f none tmps df []).eval g = .func (.func kf) first cap) (he : Enters P kf) :
    step P (lone (mk f none tmps df (.code (.rangeFunc g params asg body) :: k)) cs w) =
      .next (lone (Frame.enter P kf (first ++ #[.func (.yield (w.heap.size + 1)) #[] #[]] ++ cap) .normal)
        (mk f none tmps ({ target := .collected w.heap.size, args := #[] } :: df) (.inRangeFunc (w.heap.size + 1) :: k) :: cs)
        { w with heap := (w.heap.push (.deferred (some []))).push (.loop { state := .ready, pending := none, fn := f, tmps, params, assign := asg, body, defers := w.heap.size }) }) := by
  have hg' : ∀ (df' : List Deferred) (k' : List Item), Frame.eval { fn := f, tmps := tmps, todo := k', defers := df', mode := .run, kind := .normal, roundOf := none } g = .func (.func kf) first cap := by
    intro df' k'
    rw [← hg]
    cases g <;> rfl
  refine step_lone_go ?_
  have hcst : ∀ (fr : Frame) (v : Value), fr.eval (.const v) = v := fun _ _ => rfl
  have e : first ++ #[Value.func (.yield (w.heap.size + 1)) #[] #[]] ++ cap = first.push (Value.func (.yield (w.heap.size + 1)) #[] #[]) ++ cap := by simp
  rw [e]
  have hc := he (first.push (Value.func (.yield (w.heap.size + 1)) #[] #[]) ++ cap)
  simp [stepG, stepG.exec, stepG.apply, mk, Instr.enterLoop, newObj, Sem.run, bind, Sem.bind, pure, resolve, hg', hcst, Deferred.ofValue, invoke, hc]

theorem st_endRangeFunc (h : w.heap[l]? = some (.loop rc)) (hs : rc.state ≠ .busy) :
    step P (lone (mk f none tmps df (.endRangeFunc l :: k)) cs w) = .next (lone (mk f none tmps df ((rc.pending.map Item.code).toList ++ k)) cs (World.put w l (.loop { rc with state := .exhausted }))) := by
  refine step_lone_go ?_
  simp [stepG, stepG.exec, mk, Instr.endLoop, Instr.getLoop, getObj, setObj, Sem.run, bind, Sem.bind, pure, h, hs, World.put]
end moves

/-! ### a loop's record is turned -/
def turnLoop (st : St) (id : Nat) (g : LoopState → Jump → Option (LoopState × Jump)) : Option (Jump × St) :=
  match st.h.at_ id with
  | some (.loop f n tm ps asg body s p d) => match g s p with
    | some (s', p') => bif st.canW id then some (p, st.turn id (.loop f n tm ps asg body s' p' d)) else none
    | none => none
  | _ => none

theorem turnLoop_ok {q : Nat} {μ : Mu} {st : St} {w : World} {id : Nat} {g : LoopState → Jump → Option (LoopState × Jump)} {x : Jump × St} (h : turnLoop st id g = some x) (hr : HRep q μ st.h w) {l0 : Loc} (hl0 : μ id = some l0) :
    ∃ lc rc s' p', μ id = some lc ∧ w.heap[lc.blk]? = some (.loop rc) ∧ rc.pending = x.1.code ∧ g rc.state x.1 = some (s', p') ∧
      Good μ st w μ x.2 (World.put w lc.blk (.loop { rc with state := s', pending := p'.code })) ∧ HRep q μ x.2.h (World.put w lc.blk (.loop { rc with state := s', pending := p'.code })) ∧ x.2.nx = st.nx ∧ Kept st x.2 := by
  unfold turnLoop at h
  split at h
  · rename_i f n tm ps asg body s p d hat
    split at h
    · rename_i s' p' hg
      cases hw : st.canW id with
      | false => simp [hw] at h
      | true =>
        simp only [hw, cond_true, Option.some.injEq] at h
        subst h
        obtain ⟨o, h2, h3⟩ := hr.obj id _ _ hat hl0
        obtain ⟨tmps, dl, k1, k2, k3, rfl⟩ := h3
        have h1 := hl0
        have hlt := (Array.getElem?_eq_some_iff.1 h2).1
        have ht := turn_ok (μ := μ) (st := st) (w := w) (w' := World.put w l0.blk (.loop { state := s', pending := p'.code, fn := f, tmps, params := ps.toArray, assign := asg, body, defers := dl.blk }))
          (o := .loop { state := s', pending := p'.code, fn := f, tmps, params := ps.toArray, assign := asg, body, defers := dl.blk }) (b := .loop f n tm ps asg body s' p' d) (id := id) (l := l0) hr (by rw [hat]; simp) hw h1
          ⟨tmps, dl, k1, k2, k3, rfl⟩ rfl rfl rfl (by simp [World.put]) (by simp [World.put, hlt]) (fun k hk => Array.getElem?_setIfInBounds_ne (fun e => hk e.symm))
        exact ⟨l0, _, s', p', h1, h2, rfl, hg, ht.1, ht.2, rfl, ⟨rfl, rfl, rfl⟩⟩
    · cases h
  · cases h

/-! ### a round -/
def setPs : List Nat → List AV → T AV → T AV
  | t :: ts, a :: as, tm => (tm.put t (some a)).seq fun tm' => setPs ts as tm'
  | _, _, tm => tm

theorem setPs_ok {q : Nat} {μ : Mu} : ∀ (ps : List Nat) (as : List AV) (vs : List Value) (tm : T AV) (tmps : Array Value), RepL q μ as vs → TmpR q μ tm tmps →
    TmpR q μ (setPs ps as tm) ((ps.zip vs).foldl (fun tmps (x : Nat × Value) => tmps.setIfInBounds x.1 x.2) tmps) ∧ ((ps.zip vs).foldl (fun tmps (x : Nat × Value) => tmps.setIfInBounds x.1 x.2) tmps).size = tmps.size
  | [], _, _, tm, tmps, _, ht => by simp [setPs, ht]
  | t :: ts, [], [], tm, tmps, _, ht => by simp [setPs, ht]
  | t :: ts, [], _ :: _, _, _, hr, _ => by simp [RepL] at hr
  | t :: ts, _ :: _, [], _, _, hr, _ => by simp [RepL] at hr
  | t :: ts, a :: as, v :: vs, tm, tmps, hr, ht => by
    simp only [RepL] at hr
    simp only [setPs, T.seq_eq, List.zip_cons_cons, List.foldl_cons]
    have h1 : TmpR q μ (tm.put t (some a)) (tmps.setIfInBounds t v) := by
      intro i x hx
      rw [T.at_put]
      by_cases e : i = t
      · subst e
        rw [if_pos rfl]
        rw [Array.getElem?_setIfInBounds] at hx
        simp only [if_true] at hx
        split at hx
        · simp at hx; subst hx; exact hr.1
        · cases hx
      · rw [if_neg e]
        rw [Array.getElem?_setIfInBounds_ne (fun h => e h.symm)] at hx
        exact ht i x hx
    obtain ⟨h2, h3⟩ := setPs_ok ts as vs _ _ hr.2 h1
    exact ⟨h2, by rw [h3]; simp⟩

def Jump.isN : Jump → Bool
  | .normal => true
  | _ => false

def bindRet : Out → (Jump × St → Option Ret) → Option Ret
  | [], _ => some []
  | x :: l, g => match g x, bindRet l g with
    | some a, some b => some (a ++ b)
    | _, _ => none

theorem bindRet_mem : ∀ {l : Out} {g : Jump × St → Option Ret} {o : Ret} {x : Jump × St}, bindRet l g = some o → x ∈ l → ∃ o1, g x = some o1 ∧ ∀ y ∈ o1, y ∈ o
  | [], _, _, _, _, hm => by simp at hm
  | s' :: l, g, o, s, h, hm => by
    simp only [bindRet] at h
    cases hg : g s' with
    | none => simp [hg] at h
    | some a =>
      cases hl : bindRet l g with
      | none => simp [hg, hl] at h
      | some b =>
        simp only [hg, hl, Option.some.injEq] at h
        subst h
        rcases List.mem_cons.1 hm with e | e
        · subst e; exact ⟨a, hg, fun x hx => List.mem_append.2 (.inl hx)⟩
        · obtain ⟨o3, h1, h2⟩ := bindRet_mem hl e; exact ⟨o3, h1, fun x hx => List.mem_append.2 (.inr (h2 x hx))⟩

def toBusy (s : LoopState) (p : Jump) : Option (LoopState × Jump) := match s with | .ready => some (.busy, p) | _ => none
def toEnd (j : Jump) (_ : LoopState) (_ : Jump) : Option (LoopState × Jump) := some (bif j.isN then .ready else .done, j)
def toOver (s : LoopState) (p : Jump) : Option (LoopState × Jump) := match s with | .busy => none | _ => some (.exhausted, p)

def endRoundA (id : Nat) (st : St) (x : Jump × St) : Option (AV × St) :=
  match x.2.df with
  | [] => match turnLoop x.2 id (toEnd x.1) with
    | none => none
    | some y => some (.bool x.1.isN, { st with h := y.2.h, nx := y.2.nx, mw := y.2.mw })
  | _ => none

def bodyA (exr : FuncId → Code → St → Option Out) (id : Nat) (f : FuncId) (body : Code) (st : St) (x : Jump × St) : Option Ret :=
  bif x.1.isN then
    match turnLoop x.2 id toBusy with
    | none => none
    | some y => match exr f body y.2 with
      | none => none
      | some o => o.mapM (endRoundA id st)
  else none

def roundA (exr : FuncId → Code → St → Option Out) (id : Nat) (args : List AV) (st : St) : Option Ret :=
  match st.h.at_ id with
  | some (.loop f n tm ps asg body _ _ _) =>
    bif Nat.beq args.length ps.length then
      match exr f asg { tm := setPs ps args tm, n := n, df := [], h := st.h, nx := st.nx, ro := st.ro, wl := st.wl, mw := st.mw } with
      | none => none
      | some o => bindRet o (bodyA exr id f body st)
    else none
  | _ => none

/-- The temporaries of a state are of no weight between two worlds. -/
theorem Good.of_tmps {μ μ' : Mu} {st s st' : St} {w w' : World} (g : Good μ s w μ' st' w') (h1 : s.h = st.h) (h2 : s.nx = st.nx) (h3 : s.ro = st.ro) (h4 : s.wl = st.wl) (h5 : s.mw = st.mw) : Good μ st w μ' st' w' where
  ext := g.ext
  nx := h2 ▸ g.nx
  ro := g.ro.trans h3
  wl := g.wl.trans h4
  mw := h5 ▸ g.mw
  os := g.os
  tape := g.tape
  output := g.output
  size := g.size
  frame := fun b hb hn => g.frame b hb fun ⟨id, l, k1, k2, k3⟩ => hn ⟨id, l, by rw [← h1]; exact k1, by rw [← St.canW_congr h3 h4]; exact k2, k3⟩
  new := fun id l k1 k2 => (g.new id l k1 k2).imp _root_.id fun ⟨id', l', m1, m2, m3⟩ => ⟨id', l', by rw [← h1]; exact m1, by rw [← St.canW_congr h3 h4]; exact m2, m3⟩
  live := fun id hid h => by have := g.live id (by rw [h2]; exact hid) h; rwa [h1] at this
  keep := fun id hid h => by have := g.keep id (by rw [h2]; exact hid) h; rwa [h1] at this
  low := fun id hid => g.low id (by rw [h2]; exact hid)

theorem Good.to_tmps {μ μ' : Mu} {st s st' : St} {w w' : World} (g : Good μ st w μ' s w') (h1 : st'.h = s.h) (h2 : st'.nx = s.nx) (h3 : st'.ro = s.ro) (h4 : st'.wl = s.wl) (h5 : st'.mw = s.mw) : Good μ st w μ' st' w' where
  ext := g.ext
  nx := by rw [h2]; exact g.nx
  ro := h3.trans g.ro
  wl := h4.trans g.wl
  mw := by rw [h5]; exact g.mw
  os := g.os
  tape := g.tape
  output := g.output
  size := g.size
  frame := g.frame
  new := g.new
  live := fun id hid h => g.live id hid (by rwa [h1] at h)
  keep := fun id hid h => by rw [h1]; exact g.keep id hid (by rwa [h5] at h)
  low := fun id hid => g.low id hid

theorem round_ok {P : Program} {q : Nat} {exr : FuncId → Code → St → Option Out} (hex : ∀ f r c s o, exr f c s = some o → CodeOk P q f (some r) c s o) {id : Nat} {args : List AV} {st : St} {rets : Ret}
    (h : roundA exr id args st = some rets) {μ : Mu} {w : World} {argsV : Array Value} (hr : HRep q μ st.h w) (hf : ∀ id, st.nx ≤ id → μ id = none) (ha : RepL q μ args argsV.toList) {l0 : Loc} (hl0 : μ id = some l0) :
    ∃ lc rc, μ id = some lc ∧ w.heap[lc.blk]? = some (.loop rc) ∧ argsV.size = rc.params.size ∧
      Rounds P (Frame.round lc.blk rc.fn ((rc.params.zip argsV).foldl (fun tmps (t, a) => tmps.setIfInBounds t a) rc.tmps) rc.assign rc.body .normal) w (Post q μ st w rets) := by
  unfold roundA at h
  split at h
  · rename_i f n tm ps asg body s p d hat
    cases hlen : Nat.beq args.length ps.length with
    | false => simp [hlen] at h
    | true =>
      simp only [hlen, cond_true] at h
      have hl := Nat.eq_of_beq_eq_true hlen
      have hla := ha.length
      simp only [Array.length_toList] at hla
      obtain ⟨o, h2, h3⟩ := hr.obj id _ _ hat hl0
      obtain ⟨tmps, dl, k1, k2, k3, rfl⟩ := h3
      have h1 := hl0
      refine ⟨l0, _, h1, h2, by simp; omega, ?_⟩
      simp only
      intro c cs
      -- the temporaries
      have hfold : ((ps.toArray.zip argsV).foldl (fun tmps (x : Nat × Value) => tmps.setIfInBounds x.1 x.2) tmps) = ((ps.zip argsV.toList).foldl (fun tmps (x : Nat × Value) => tmps.setIfInBounds x.1 x.2) tmps) := by
        rw [← Array.foldl_toList, Array.toList_zip]
      have hset := setPs_ok ps args argsV.toList tm tmps ha k3
      rw [← hfold] at hset
      generalize htm : ((ps.toArray.zip argsV).foldl (fun tmps (x : Nat × Value) => tmps.setIfInBounds x.1 x.2) tmps) = tm' at hset
      have hfr : Frame.round l0.blk f tm' asg body .normal = mk f (some l0.blk) tm' [] [.code asg, .beginRound, .code body] := rfl
      rw [hfr]
      cases he : exr f asg { tm := setPs ps args tm, n := n, df := [], h := st.h, nx := st.nx, ro := st.ro, wl := st.wl, mw := st.mw } with
      | none => simp [he] at h
      | some o1 =>
        simp only [he] at h
        have hs0 : SRep q μ { tm := setPs ps args tm, n := n, df := [], h := st.h, nx := st.nx, ro := st.ro, wl := st.wl, mw := st.mw } tm' [] w :=
          ⟨by rw [hset.2]; exact k2, hset.1, by simp [DefR], hr, hf⟩
        obtain ⟨j, s1, hm, μ1, t1, df1, w1, hs1, hg1, harr⟩ := hex f l0.blk asg _ o1 he μ tm' [] w hs0 [.beginRound, .code body] (c :: cs)
        obtain ⟨r1, hr1, hsub⟩ := bindRet_mem h hm
        unfold bodyA at hr1
        cases hj : j.isN with
        | false => simp [hj] at hr1
        | true =>
          have hjn : j = .normal := by cases j <;> simp_all [Jump.isN]
          subst hjn
          simp only [hj, cond_true] at hr1
          cases hb : turnLoop s1 id toBusy with
          | none => simp [hb] at hr1
          | some y =>
            simp only [hb] at hr1
            obtain ⟨lc1, rc1, s', p', a1, a2, a3, a4, a5, a6, a7, a8⟩ := turnLoop_ok hb hs1.heap (hg1.ext id l0 h1)
            have e1 := hg1.ext id l0 h1
            rw [a1] at e1
            obtain rfl := Option.some.inj e1
            have hst : rc1.state = .ready ∧ s' = .busy ∧ p' = y.1 := by
              unfold toBusy at a4
              split at a4
              · simp only [Option.some.injEq, Prod.mk.injEq] at a4; exact ⟨by assumption, a4.1.symm, a4.2.symm⟩
              · cases a4
            obtain ⟨hready, rfl, rfl⟩ := hst
            rw [← a3] at a5 a6
            have hstep1 := st_beginRound (P := P) (f := f) (tmps := t1) (df := df1) (k := [.code body]) (cs := c :: cs) a2 hready
            cases he2 : exr f body y.2 with
            | none => simp [he2] at hr1
            | some o2 =>
              simp only [he2] at hr1
              have hs1' : SRep q μ1 y.2 t1 df1 (World.put w1 lc1.blk (.loop { rc1 with state := .busy })) :=
                ⟨by rw [a8.n]; exact hs1.size, by rw [a8.tm]; exact hs1.tmp, by rw [a8.df]; exact hs1.dfr, a6, by rw [a7]; exact hs1.fresh⟩
              obtain ⟨j2, s2, hm2, μ2, t2, df2, w2, hs2, hg2, harr2⟩ := hex f lc1.blk body _ o2 he2 μ1 t1 df1 _ hs1' [] (c :: cs)
              obtain ⟨z, hz, hend⟩ := mem_mapM hr1 _ hm2
              unfold endRoundA at hend
              simp only at hend
              split at hend
              · rename_i hdf
                cases htl : turnLoop s2 id (toEnd j2) with
                | none => simp [htl] at hend
                | some y2 =>
                  simp only [htl, Option.some.injEq] at hend
                  subst hend
                  obtain ⟨lc2, rc2, s'', p'', b1, b2, b3, b4, b5, b6, b7, b8⟩ := turnLoop_ok htl hs2.heap (hg2.ext id lc1 a1)
                  have e2 := hg2.ext id lc1 a1
                  rw [b1] at e2
                  obtain rfl := Option.some.inj e2
                  simp only [toEnd, Option.some.injEq, Prod.mk.injEq] at b4
                  obtain ⟨rfl, rfl⟩ := b4
                  have hdf2 : df2 = [] := by
                    have := hs2.dfr
                    rw [hdf] at this
                    cases df2 with
                    | nil => rfl
                    | cons _ _ => simp [DefR] at this
                  subst hdf2
                  have hgood : Good μ st w μ2 { st with h := y2.2.h, nx := y2.2.nx, mw := y2.2.mw } (World.put w2 lc2.blk (.loop { rc2 with state := bif j2.isN then .ready else .done, pending := j2.code })) := by
                    have g1 : Good μ st w μ1 s1 w1 := hg1.of_tmps rfl rfl rfl rfl rfl
                    have g2 := (g1.trans hf a5).trans hf (hg2.trans hs1'.fresh b5)
                    exact g2.to_tmps rfl rfl (by rw [g2.ro]) (by rw [g2.wl]) rfl
                  have hfin : Post q μ st w rets (.bool j2.isN) (World.put w2 lc2.blk (.loop { rc2 with state := bif j2.isN then .ready else .done, pending := j2.code })) :=
                    ⟨_, _, hsub _ hz, μ2, by simp [Rep], hgood, b6, by rw [b7]; exact hs2.fresh, ⟨rfl, rfl, rfl⟩⟩
                  refine ⟨.bool j2.isN, _, hfin, Steps.trans harr (.head hstep1 ?_)⟩
                  cases j2 with
                  | normal => exact Steps.trans harr2 (.one (st_endRound b2))
                  | exit i =>
                    obtain ⟨k0, hk0, hst0⟩ := harr2
                    exact Steps.trans hst0 (.one (st_endRound_exit (by rw [hk0]; rfl) b2))
                  | ret =>
                    obtain ⟨k0, hst0⟩ := harr2
                    exact Steps.trans hst0 (.one (st_endRound_ret b2))
              · cases hend
  · cases h

/-! ### the range statement -/
def overA (L : Nat) (df : List Nat) (tm : T AV) (n : Nat) (x : AV × St) : Option (Jump × St) :=
  match turnLoop x.2 L toOver with
  | none => none
  | some y => some (y.1, { y.2 with df := df, tm := tm, n := n })

def rngA (cf : FuncId → List AV → St → Option Ret) (f : FuncId) (g : Operand) (params : Array Tmp) (asg body : Code) (st : St) : Option Out :=
  match ev st g with
  | some (.fn kf first cap) =>
    match cf kf (first ++ [.yld (st.nx + 1)] ++ cap) ((st.new (.dfr true)).new (.loop f st.n st.tm params.toList asg body .ready .normal st.nx)) with
    | none => none
    | some rets => rets.mapM (overA (st.nx + 1) (st.nx :: st.df) st.tm st.n)
  | _ => none

theorem rng_ok {P : Program} {q : Nat} {cf : FuncId → List AV → St → Option Ret} (hcf : CallOk P q cf) (hent : ∀ k args st rets, cf k args st = some rets → Enters P k) {f : FuncId} {g : Operand} {params : Array Tmp} {asg body : Code} {st : St} {o : Out}
    (h : rngA cf f g params asg body st = some o) : CodeOk P q f none (.rangeFunc g params asg body) st o := by
  intro μ tmps df w hs k cs
  unfold rngA at h
  split at h
  · rename_i kf first cap hev
    have hgv := ev_ok (fr := mk f none tmps df []) hs.size hs.tmp rfl g _ hev
    simp only [Rep] at hgv
    obtain ⟨fv, cv, hgv, hfirst, hcap⟩ := hgv
    split at h
    · cases h
    · rename_i rets hc
      have hE := hent _ _ _ _ hc
      have hstep := st_rangeFunc (P := P) (f := f) (tmps := tmps) (df := df) (k := k) (cs := cs) (w := w) (params := params) (asg := asg) (body := body) hgv hE
      -- the two new blocks
      obtain ⟨g1, r1, f1⟩ := new_ok (q := q) (μ := μ) (st := st) (w := w) (o := .deferred (some [])) (b := .dfr true) (l := ⟨w.heap.size, 0, 0⟩) hs.heap hs.fresh rfl (by simp [Blk])
      generalize hμ1 : μ.add st.nx ⟨w.heap.size, 0, 0⟩ = μ1 at g1 r1 f1
      have hD : μ1 st.nx = some ⟨w.heap.size, 0, 0⟩ := by rw [← hμ1]; exact Mu.add_same _ _ _
      generalize hw1 : ({ w with heap := w.heap.push (.deferred (some [])) } : World) = w1 at g1 r1
      have hsz1 : w1.heap.size = w.heap.size + 1 := by rw [← hw1]; simp
      let lp : Loop := { state := .ready, pending := none, fn := f, tmps, params, assign := asg, body, defers := w.heap.size }
      have hnx1 : (st.new (.dfr true)).nx = st.nx + 1 := rfl
      have hext2 : Ext μ1 (μ1.add (st.new (.dfr true)).nx ⟨w1.heap.size, 0, 0⟩) := Mu.add_ext (f1 _ (Nat.le_refl _))
      obtain ⟨g2, r2, f2⟩ := new_ok (q := q) (μ := μ1) (st := st.new (.dfr true)) (w := w1) (o := .loop lp) (b := .loop f st.n st.tm params.toList asg body .ready .normal st.nx) (l := ⟨w1.heap.size, 0, 0⟩) r1 f1 rfl
        ⟨tmps, ⟨w.heap.size, 0, 0⟩, hext2 _ _ hD, hs.size, (hs.tmp.mono g1.ext).mono hext2, by simp [lp, Jump.code]⟩
      generalize hμ2 : μ1.add (st.new (.dfr true)).nx ⟨w1.heap.size, 0, 0⟩ = μ2 at g2 r2 f2
      have hL : μ2 (st.nx + 1) = some ⟨w1.heap.size, 0, 0⟩ := by rw [← hμ2, hnx1]; exact Mu.add_same _ _ _
      have hD2 : μ2 st.nx = some ⟨w.heap.size, 0, 0⟩ := g2.ext _ _ hD
      generalize hw2 : ({ w1 with heap := w1.heap.push (.loop lp) } : World) = w2 at g2 r2
      have hwe : ({ w with heap := (w.heap.push (.deferred (some []))).push (.loop { state := .ready, pending := none, fn := f, tmps, params, assign := asg, body, defers := w.heap.size }) } : World) = w2 := by
        rw [← hw2, ← hw1]
      rw [hwe] at hstep
      have g12 := g1.trans hs.fresh g2
      -- the arguments
      have hargs : RepL q μ2 (first ++ [.yld (st.nx + 1)] ++ cap) (fv ++ #[Value.func (.yield (w.heap.size + 1)) #[] #[]] ++ cv).toList := by
        simp only [Array.toList_append]
        refine RepL.append (RepL.append (RepL.mono g12.ext _ _ hfirst) ?_) (RepL.mono g12.ext _ _ hcap)
        simp only [RepL, Rep, and_true]
        exact ⟨_, hL, by rw [hsz1]⟩
      obtain ⟨e, w3, fr3, ⟨v, rfl, a, s3, hm3, μ3, hrep3, hg3, hh3, hfr3, hk3⟩, hsteps, _, hleave⟩ := hcf _ _ _ _ hc μ2 w2 _ r2 f2 hargs (mk f none tmps ({ target := .collected w.heap.size, args := #[] } :: df) (.inRangeFunc (w.heap.size + 1) :: k) :: cs)
      obtain ⟨z, hz, hov⟩ := mem_mapM h _ hm3
      unfold overA at hov
      simp only at hov
      cases htl : turnLoop s3 (st.nx + 1) toOver with
      | none => simp [htl] at hov
      | some y =>
        simp only [htl, Option.some.injEq] at hov
        subst hov
        obtain ⟨lc, rc, s', p', b1, b2, b3, b4, b5, b6, b7, b8⟩ := turnLoop_ok htl hh3 (hg3.ext _ _ hL)
        have eL := hg3.ext _ _ hL
        rw [b1] at eL
        obtain rfl := Option.some.inj eL
        simp only at b2 b5 b6
        have hnb : rc.state ≠ .busy ∧ s' = .exhausted ∧ p' = y.1 := by
          unfold toOver at b4
          split at b4
          · cases b4
          · rename_i hne
            simp only [Option.some.injEq, Prod.mk.injEq] at b4
            exact ⟨hne, b4.1.symm, b4.2.symm⟩
        obtain ⟨hnb, rfl, rfl⟩ := hnb
        rw [← b3] at b5 b6
        rw [hsz1] at b2 b5 b6
        have hfin : (mk f none tmps ({ target := .collected w.heap.size, args := #[] } :: df) (.inRangeFunc (w.heap.size + 1) :: k)).finish v = mk f none tmps ({ target := .collected w.heap.size, args := #[] } :: df) (.endRangeFunc (w.heap.size + 1) :: k) := rfl
        have hl := step_leave_returned (c := mk f none tmps ({ target := .collected w.heap.size, args := #[] } :: df) (.inRangeFunc (w.heap.size + 1) :: k)) (cs := cs) hleave
        rw [hfin] at hl
        have hend := st_endRangeFunc (P := P) (f := f) (tmps := tmps) (df := { target := .collected w.heap.size, args := #[] } :: df) (k := k) (cs := cs) b2 hnb
        have hgall := (g12.trans hs.fresh hg3).trans hs.fresh b5
        refine ⟨y.1, _, hz, μ3, tmps, { target := .collected w.heap.size, args := #[] } :: df, _, ⟨hs.size, hs.tmp.mono hgall.ext, ?_, b6, by simp only; rw [b7]; exact hfr3⟩, hgall.to_tmps rfl rfl rfl rfl rfl, ?_⟩
        · simp only [DefR]
          exact ⟨⟨_, hg3.ext _ _ hD2, rfl⟩, hs.dfr.mono hgall.ext⟩
        · have hall := Steps.trans (.head hstep hsteps) (.head hl (.one hend))
          have e3 : rc.pending.map Item.code = y.1.code.map Item.code := by rw [b3]
          rw [e3] at hall
          cases hy : y.1 with
          | normal => rw [hy] at hall; simpa [Jump.code, Arr] using hall
          | exit i => rw [hy] at hall; exact ⟨k, rfl, by simpa [Jump.code] using hall⟩
          | ret => rw [hy] at hall; exact ⟨k, by simpa [Jump.code] using hall⟩
  · cases h

end Go.Proofs.YtdkcihleblbkaaaGreatDoor.Eng

/- A verified symbolic executor, part 8: arithmetic on abstract values. The lemmas hold of every program; no project text. -/
namespace Go.Proofs.YtdkcihleblbkaaaGreatDoor.Eng
set_option linter.unusedVariables false
set_option linter.unusedSimpArgs false
set_option linter.unusedSectionVars false
open Go

/-! ### integers -/
def lim : IntKind → Nat
  | .i8 => 128 | .u8 => 256 | .i16 => 32768 | .u16 => 65536 | .i32 => 2147483648 | .u32 => 4294967296 | .i64 => 9223372036854775808 | .u64 => 18446744073709551616
def sgn : IntKind → Bool
  | .i8 | .i16 | .i32 | .i64 => true
  | _ => false

def inR (k : IntKind) (n : Int) : Bool :=
  match n with
  | .ofNat m => Nat.blt m (lim k)
  | .negSucc m => bif sgn k then Nat.blt m (lim k) else false

def wrapF (k : IntKind) (n : Int) : Int := bif inR k n then n else k.wrap n

theorem inR_wrap {k : IntKind} {n : Int} (h : inR k n = true) : k.wrap n = n := by
  unfold inR at h
  cases n with
  | ofNat m =>
    simp only [Nat.blt_eq] at h
    cases k <;> simp only [lim] at h <;> simp only [IntKind.wrap, IntKind.bits, IntKind.signed] <;> simp <;> omega
  | negSucc m =>
    cases k <;> simp only [lim, sgn, cond_true, cond_false, Nat.blt_eq, Bool.false_eq_true] at h <;> simp only [IntKind.wrap, IntKind.bits, IntKind.signed] <;> simp <;> omega

theorem wrapF_eq (k : IntKind) (n : Int) : wrapF k n = k.wrap n := by
  unfold wrapF
  cases h : inR k n with
  | true => simp [inR_wrap h]
  | false => simp

/-- least and greatest of a kind -/
def loK (k : IntKind) : Int := bif sgn k then .negSucc (lim k - 1) else 0
def hiK (k : IntKind) : Int := .ofNat (lim k - 1)

theorem wrap_range (k : IntKind) (n : Int) : loK k ≤ k.wrap n ∧ k.wrap n ≤ hiK k := by
  cases k <;> simp only [IntKind.wrap, IntKind.bits, IntKind.signed, loK, hiK, sgn, lim, cond_true, cond_false] <;> simp <;> (try split) <;> omega

def bnd : AV → Option (IntKind × Int × Int)
  | .int k n => some (k, n, n)
  | .aint k lo hi => some (k, lo, hi)
  | .intq k c => some (k, c, c + 7)
  | _ => none

theorem bnd_ok {q : Nat} (hq : q < 8) {μ : Mu} {a : AV} {v : Value} {k : IntKind} {lo hi : Int} (h : bnd a = some (k, lo, hi)) (r : Rep q μ a v) : ∃ n, v = .int k n ∧ lo ≤ n ∧ n ≤ hi := by
  cases a <;> simp only [bnd, Option.some.injEq, Prod.mk.injEq, reduceCtorEq] at h
  · obtain ⟨rfl, rfl, rfl⟩ := h; simp only [Rep] at r; exact ⟨_, r, Int.le_refl _, Int.le_refl _⟩
  · obtain ⟨rfl, rfl, rfl⟩ := h; simpa only [Rep] using r
  · obtain ⟨rfl, rfl, rfl⟩ := h; simp only [Rep] at r; exact ⟨_, r, by omega, by omega⟩

def cmpA (op : BinOp) (l1 h1 l2 h2 : Int) : AV :=
  match op with
  | .lss => bif decide (h1 < l2) then .bool true else bif decide (h2 ≤ l1) then .bool false else .ubool
  | .leq => bif decide (h1 ≤ l2) then .bool true else bif decide (h2 < l1) then .bool false else .ubool
  | .gtr => bif decide (h2 < l1) then .bool true else bif decide (h1 ≤ l2) then .bool false else .ubool
  | .geq => bif decide (h2 ≤ l1) then .bool true else bif decide (h1 < l2) then .bool false else .ubool
  | .eql => bif decide (h1 < l2) || decide (h2 < l1) then .bool false else bif decide (l1 = h1) && decide (l2 = h2) && decide (l1 = l2) then .bool true else .ubool
  | .neq => bif decide (h1 < l2) || decide (h2 < l1) then .bool true else bif decide (l1 = h1) && decide (l2 = h2) && decide (l1 = l2) then .bool false else .ubool
  | _ => .any

def isCmp : BinOp → Bool
  | .lss | .leq | .gtr | .geq | .eql | .neq => true
  | _ => false

theorem bool_rep {q : Nat} {μ : Mu} (a : AV) (b : Bool) (h : a = .bool b ∨ a = .ubool) : Rep q μ a (.bool b) := by
  rcases h with rfl | rfl <;> simp [Rep]

theorem cmpA_ok {q : Nat} {μ : Mu} {op : BinOp} (hc : isCmp op = true) {l1 h1 l2 h2 x y : Int} (a1 : l1 ≤ x) (a2 : x ≤ h1) (b1 : l2 ≤ y) (b2 : y ≤ h2) (P : Program) (w : World) :
    ∃ v, (Op.intCmp op x y).run P w = .ok v w ∧ Rep q μ (cmpA op l1 h1 l2 h2) v := by
  cases op <;> simp only [isCmp, Bool.false_eq_true] at hc
  · refine ⟨_, rfl, bool_rep _ _ ?_⟩
    simp only [cmpA]
    by_cases e1 : h1 < l2
    · left; have : (x == y) = false := by simp; omega
      simp [e1, this]
    · by_cases e2 : h2 < l1
      · left; have : (x == y) = false := by simp; omega
        simp [e2, this]
      · by_cases e3 : l1 = h1 ∧ l2 = h2 ∧ l1 = l2
        · left; have : (x == y) = true := by simp; omega
          simp [this, e3.1, e3.2.1]
          rw [e3.1] at *; simp_all
        · right
          have : (decide (l1 = h1) && decide (l2 = h2) && decide (l1 = l2)) = false := by simpa using fun a b c => e3 ⟨a, b, c⟩
          simp [e1, e2, this]
  · refine ⟨_, rfl, bool_rep _ _ ?_⟩
    simp only [cmpA]
    by_cases e1 : h1 < l2
    · left; have : (x != y) = true := by simp; omega
      simp [e1, this]
    · by_cases e2 : h2 < l1
      · left; have : (x != y) = true := by simp; omega
        simp [e2, this]
      · by_cases e3 : l1 = h1 ∧ l2 = h2 ∧ l1 = l2
        · left; have : (x != y) = false := by simp; omega
          simp [this, e3.1, e3.2.1]
          rw [e3.1] at *; simp_all
        · right
          have : (decide (l1 = h1) && decide (l2 = h2) && decide (l1 = l2)) = false := by simpa using fun a b c => e3 ⟨a, b, c⟩
          simp [e1, e2, this]
  all_goals
    refine ⟨_, rfl, bool_rep _ _ ?_⟩
    simp only [cmpA]
    first
      | (by_cases e1 : h1 < l2
         · left; simp [e1]; omega
         · by_cases e2 : h2 ≤ l1
           · left; simp [e1, e2]; omega
           · right; simp [e1, e2])
      | (by_cases e1 : h1 ≤ l2
         · left; simp [e1]; omega
         · by_cases e2 : h2 < l1
           · left; simp [e1, e2]; omega
           · right; simp [e1, e2])
      | (by_cases e1 : h2 < l1
         · left; simp [e1]; omega
         · by_cases e2 : h1 ≤ l2
           · left; simp [e1, e2]; omega
           · right; simp [e1, e2])
      | (by_cases e1 : h2 ≤ l1
         · left; simp [e1]; omega
         · by_cases e2 : h1 < l2
           · left; simp [e1, e2]; omega
           · right; simp [e1, e2])

def bitsA (op : BinOp) (k : IntKind) (x y : Int) : Option Int :=
  let a := BitVec.ofInt k.bits x
  let b := BitVec.ofInt k.bits y
  match op with
  | .and => some (a &&& b).toNat
  | .or => some (a ||| b).toNat
  | .xor => some (a ^^^ b).toNat
  | .andNot => some (a &&& ~~~b).toNat
  | _ => none

/-- known numbers -/
def knownA (op : BinOp) (k : IntKind) (x y : Int) : Option AV :=
  match op with
  | .add => some (.int k (wrapF k (x + y)))
  | .sub => some (.int k (wrapF k (x - y)))
  | .mul => some (.int k (wrapF k (x * y)))
  | .quo => bif decide (y = 0) then none else some (.int k (wrapF k (x.tdiv y)))
  | .rem => bif decide (y = 0) then none else some (.int k (x.tmod y))
  | .shl | .shr => none
  | op => bif isCmp op then some (cmpA op x x y y) else match bitsA op k x y with
    | some n => some (.int k (wrapF k n))
    | none => none

def shiftA (op : BinOp) (k : IntKind) (x y : Int) : Option AV :=
  bif decide (y < 0) then none else
  match op with
  | .shl => some (.int k (wrapF k (x * ((2 : Nat) ^ (min y.toNat k.bits) : Nat))))
  | .shr => some (.int k (x.fdiv ((2 : Nat) ^ (min y.toNat k.bits) : Nat)))
  | _ => none

def addq (op : BinOp) (k : IntKind) (a b : AV) : Option AV :=
  match op, a, b with
  | .add, .intq _ c, .int _ n => bif inR k (c + n) && inR k (c + n + 7) then some (.intq k (c + n)) else none
  | .add, .int _ n, .intq _ c => bif inR k (c + n) && inR k (c + n + 7) then some (.intq k (c + n)) else none
  | .sub, .intq _ c, .int _ n => bif inR k (c - n) && inR k (c - n + 7) then some (.intq k (c - n)) else none
  | _, _, _ => none

/-- numbers of which some are not known -/
def vagueA (op : BinOp) (k : IntKind) (l1 h1 l2 h2 : Int) : Option AV :=
  bif isCmp op then some (cmpA op l1 h1 l2 h2) else
  match op with
  | .add | .sub | .mul | .and | .or | .xor | .andNot => some (.aint k (loK k) (hiK k))
  | .quo => bif decide (0 < l2) || decide (h2 < 0) then some (.aint k (loK k) (hiK k)) else none
  | .rem => bif decide (0 ≤ l1) && decide (l2 = h2) && decide (0 < l2) then some (.aint k 0 (l2 - 1)) else none
  | _ => none

def intBinA (op : BinOp) (a b : AV) : Option AV :=
  match op, a, b with
  | .shl, .int k x, .int _ y => shiftA .shl k x y
  | .shr, .int k x, .int _ y => shiftA .shr k x y
  | .shl, a, .int _ y => match bnd a with
    | some (k, _, _) => bif decide (y < 0) then none else some (.aint k (loK k) (hiK k))
    | none => none
  | .shr, a, .int _ y => match bnd a with
    | some (k, lo, hi) => bif decide (y < 0) then none else some (.aint k (lo.fdiv ((2 : Nat) ^ (min y.toNat k.bits) : Nat)) (hi.fdiv ((2 : Nat) ^ (min y.toNat k.bits) : Nat)))
    | none => none
  | .shl, _, _ => none
  | .shr, _, _ => none
  | op, .int k x, .int k' y => bif decide (k = k') then knownA op k x y else none
  | op, a, b => match bnd a, bnd b with
    | some (k, l1, h1), some (k', l2, h2) => bif decide (k = k') then
        match addq op k a b with
        | some r => some r
        | none => vagueA op k l1 h1 l2 h2
      else none
    | _, _ => none

theorem int_rep {q : Nat} {μ : Mu} {k : IntKind} {n m : Int} (h : m = n) : Rep q μ (.int k n) (.int k m) := by simp [Rep, h]

theorem run_shift {P : Program} {w : World} {op : BinOp} {k yk : IntKind} {x y : Int} (hy : ¬ y < 0) (ho : op = .shl ∨ op = .shr) : (Op.shift op k x yk y).run P w =
    .ok (if op = .shl then .int k (k.wrap (x * ((2 : Nat) ^ (min y.toNat k.bits) : Nat))) else .int k (x.fdiv ((2 : Nat) ^ (min y.toNat k.bits) : Nat))) w := by
  rcases ho with rfl | rfl <;> simp [Op.shift, hy]

theorem binOp_cmp {op : BinOp} (hc : isCmp op = true) (k : IntKind) (x y : Int) : binOp op 0 (.int k x) (.int k y) = Op.intCmp op x y := by
  cases op <;> simp only [isCmp, Bool.false_eq_true] at hc <;> simp [binOp]
theorem knownA_cmp {op : BinOp} (hc : isCmp op = true) (k : IntKind) (x y : Int) : op ≠ .shl ∧ op ≠ .shr ∧ knownA op k x y = some (cmpA op x x y y) := by
  cases op <;> simp only [isCmp, Bool.false_eq_true] at hc <;> simp [knownA, isCmp]
theorem vagueA_cmp {op : BinOp} (hc : isCmp op = true) (k : IntKind) (l1 h1 l2 h2 : Int) : vagueA op k l1 h1 l2 h2 = some (cmpA op l1 h1 l2 h2) := by simp [vagueA, hc]

theorem knownA_ok {P : Program} {q : Nat} {μ : Mu} {op : BinOp} {k : IntKind} {x y : Int} {a : AV} (h : knownA op k x y = some a) (w : World) :
    op ≠ .shl ∧ op ≠ .shr ∧ ∃ v, (binOp op 0 (.int k x) (.int k y)).run P w = .ok v w ∧ Rep q μ a v := by
  by_cases hc : isCmp op = true
  · obtain ⟨e1, e2, e3⟩ := knownA_cmp hc k x y
    rw [e3, Option.some.injEq] at h
    subst h
    rw [binOp_cmp hc]
    exact ⟨e1, e2, cmpA_ok hc (Int.le_refl x) (Int.le_refl x) (Int.le_refl y) (Int.le_refl y) P w⟩
  cases op <;> simp only [isCmp, not_true_eq_false] at hc <;> simp only [knownA, isCmp, cond_false, Option.some.injEq, reduceCtorEq, bitsA] at h
  case add => subst h; exact ⟨by simp, by simp, _, by simp [binOp, Op.intArith], int_rep (wrapF_eq _ _).symm⟩
  case sub => subst h; exact ⟨by simp, by simp, _, by simp [binOp, Op.intArith], int_rep (wrapF_eq _ _).symm⟩
  case mul => subst h; exact ⟨by simp, by simp, _, by simp [binOp, Op.intArith], int_rep (wrapF_eq _ _).symm⟩
  case quo =>
    by_cases hy : y = 0
    · simp [hy] at h
    · simp only [hy, decide_false, cond_false, Option.some.injEq] at h; subst h
      exact ⟨by simp, by simp, _, by simp [binOp, Op.intDiv, hy], int_rep (wrapF_eq _ _).symm⟩
  case rem =>
    by_cases hy : y = 0
    · simp [hy] at h
    · simp only [hy, decide_false, cond_false, Option.some.injEq] at h; subst h
      exact ⟨by simp, by simp, _, by simp [binOp, Op.intDiv, hy], int_rep rfl⟩
  case and => subst h; exact ⟨by simp, by simp, _, by simp [binOp, Op.intBits], int_rep (wrapF_eq _ _).symm⟩
  case or => subst h; exact ⟨by simp, by simp, _, by simp [binOp, Op.intBits], int_rep (wrapF_eq _ _).symm⟩
  case xor => subst h; exact ⟨by simp, by simp, _, by simp [binOp, Op.intBits], int_rep (wrapF_eq _ _).symm⟩
  case andNot => subst h; exact ⟨by simp, by simp, _, by simp [binOp, Op.intBits], int_rep (wrapF_eq _ _).symm⟩

theorem vagueA_ok {P : Program} {q : Nat} {μ : Mu} {op : BinOp} {k : IntKind} {x y l1 h1 l2 h2 : Int} {a : AV} (a1 : l1 ≤ x) (a2 : x ≤ h1) (b1 : l2 ≤ y) (b2 : y ≤ h2) (h : vagueA op k l1 h1 l2 h2 = some a) (w : World) :
    ∃ v, (binOp op 0 (.int k x) (.int k y)).run P w = .ok v w ∧ Rep q μ a v := by
  by_cases hc : isCmp op = true
  · rw [vagueA_cmp hc, Option.some.injEq] at h
    subst h
    rw [binOp_cmp hc]
    exact cmpA_ok hc a1 a2 b1 b2 P w
  have wr : ∀ n, Rep q μ (.aint k (loK k) (hiK k)) (.int k (k.wrap n)) := fun n => by simp only [Rep]; exact ⟨_, rfl, wrap_range k n⟩
  cases op <;> simp only [isCmp, not_true_eq_false] at hc <;> simp only [vagueA, isCmp, cond_false, Option.some.injEq, reduceCtorEq] at h
  case add => subst h; (have e : binOp .add 0 (.int k x) (.int k y) = Op.intArith .add k x y := by simp [binOp]); rw [e]; exact ⟨_, rfl, wr _⟩
  case sub => subst h; (have e : binOp .sub 0 (.int k x) (.int k y) = Op.intArith .sub k x y := by simp [binOp]); rw [e]; exact ⟨_, rfl, wr _⟩
  case mul => subst h; (have e : binOp .mul 0 (.int k x) (.int k y) = Op.intArith .mul k x y := by simp [binOp]); rw [e]; exact ⟨_, rfl, wr _⟩
  case and => subst h; (have e : binOp .and 0 (.int k x) (.int k y) = Op.intBits .and k x y := by simp [binOp]); rw [e]; exact ⟨_, rfl, wr _⟩
  case or => subst h; (have e : binOp .or 0 (.int k x) (.int k y) = Op.intBits .or k x y := by simp [binOp]); rw [e]; exact ⟨_, rfl, wr _⟩
  case xor => subst h; (have e : binOp .xor 0 (.int k x) (.int k y) = Op.intBits .xor k x y := by simp [binOp]); rw [e]; exact ⟨_, rfl, wr _⟩
  case andNot => subst h; (have e : binOp .andNot 0 (.int k x) (.int k y) = Op.intBits .andNot k x y := by simp [binOp]); rw [e]; exact ⟨_, rfl, wr _⟩
  case quo =>
    cases hd : (decide (0 < l2) || decide (h2 < 0)) with
    | false => simp [hd] at h
    | true =>
      simp only [hd, cond_true, Option.some.injEq] at h
      subst h
      simp only [Bool.or_eq_true, decide_eq_true_eq] at hd
      have hy : ¬ y = 0 := by omega
      have e : (binOp .quo 0 (.int k x) (.int k y)).run P w = .ok (.int k (k.wrap (x.tdiv y))) w := by simp [binOp, Op.intDiv, hy]
      exact ⟨_, e, wr _⟩
  case rem =>
    cases hd : (decide (0 ≤ l1) && decide (l2 = h2) && decide (0 < l2)) with
    | false => simp [hd] at h
    | true =>
      simp only [hd, cond_true, Option.some.injEq] at h
      subst h
      simp only [Bool.and_eq_true, decide_eq_true_eq] at hd
      have hy : ¬ y = 0 := by omega
      refine ⟨.int k (x.tmod y), by simp [binOp, Op.intDiv, hy], ?_⟩
      simp only [Rep]
      have e : y = l2 := by omega
      have hx : 0 ≤ x := by omega
      rw [Int.tmod_eq_emod_of_nonneg hx]
      exact ⟨_, rfl, Int.emod_nonneg _ hy, by have := Int.emod_lt_of_pos x (show 0 < y by omega); omega⟩

theorem binOp_ty (op : BinOp) (t : TypeId) (k k' : IntKind) (x y : Int) : binOp op t (.int k x) (.int k' y) = binOp op 0 (.int k x) (.int k' y) := by
  cases op <;> rfl

theorem addq_ok {P : Program} {q : Nat} {μ : Mu} {op : BinOp} {k : IntKind} {a b r : AV} {x y : Int} (hq : q < 8) (h : addq op k a b = some r) (ha : Rep q μ a (.int k x)) (hb : Rep q μ b (.int k y)) (w : World) :
    ∃ v, (binOp op 0 (.int k x) (.int k y)).run P w = .ok v w ∧ Rep q μ r v := by
  have key : ∀ n : Int, inR k n = true → inR k (n + 7) = true → k.wrap ((q : Int) + n) = (q : Int) + n := by
    intro n h1 h2
    have e1 := inR_wrap h1
    have e2 := inR_wrap h2
    have r1 := wrap_range k n
    have r2 := wrap_range k (n + 7)
    rw [e1] at r1
    rw [e2] at r2
    apply inR_wrap
    generalize hm : (q : Int) + n = m
    have m1 : loK k ≤ m := by omega
    have m2 : m ≤ hiK k := by omega
    unfold inR
    cases m with
    | ofNat j => cases k <;> simp only [hiK, lim, Nat.blt_eq] at * <;> simp at m2 <;> omega
    | negSucc j => cases k <;> simp only [loK, lim, sgn, cond_true, cond_false, Nat.blt_eq, Bool.false_eq_true] at * <;> (try simp at m1) <;> omega
  unfold addq at h
  split at h
  · rename_i k1 c k2 n
    simp only [Rep, Value.int.injEq] at ha hb
    obtain ⟨rfl, hx⟩ := ha
    obtain ⟨_, hy⟩ := hb
    cases hd : (inR k (c + n) && inR k (c + n + 7)) with
    | false => simp [hd] at h
    | true =>
      simp only [hd, cond_true, Option.some.injEq] at h
      subst h
      simp only [Bool.and_eq_true] at hd
      refine ⟨.int k (k.wrap (x + y)), by simp [binOp, Op.intArith], ?_⟩
      simp only [Rep]
      rw [show x + y = (q : Int) + (c + n) from by omega, key _ hd.1 hd.2]
  · rename_i k1 n k2 c
    simp only [Rep, Value.int.injEq] at ha hb
    obtain ⟨_, hx⟩ := ha
    obtain ⟨rfl, hy⟩ := hb
    cases hd : (inR k (c + n) && inR k (c + n + 7)) with
    | false => simp [hd] at h
    | true =>
      simp only [hd, cond_true, Option.some.injEq] at h
      subst h
      simp only [Bool.and_eq_true] at hd
      refine ⟨.int k (k.wrap (x + y)), by simp [binOp, Op.intArith], ?_⟩
      simp only [Rep]
      rw [show x + y = (q : Int) + (c + n) from by omega, key _ hd.1 hd.2]
  · rename_i k1 c k2 n
    simp only [Rep, Value.int.injEq] at ha hb
    obtain ⟨rfl, hx⟩ := ha
    obtain ⟨_, hy⟩ := hb
    cases hd : (inR k (c - n) && inR k (c - n + 7)) with
    | false => simp [hd] at h
    | true =>
      simp only [hd, cond_true, Option.some.injEq] at h
      subst h
      simp only [Bool.and_eq_true] at hd
      refine ⟨.int k (k.wrap (x - y)), by simp [binOp, Op.intArith], ?_⟩
      simp only [Rep]
      rw [show x - y = (q : Int) + (c - n) from by omega, key _ hd.1 hd.2]
  · cases h

theorem fdiv_mono {a b : Int} {n : Nat} (h : a ≤ b) : a.fdiv ((2 : Nat) ^ n : Nat) ≤ b.fdiv ((2 : Nat) ^ n : Nat) := by
  have hp : 0 < ((2 : Nat) ^ n : Nat) := Nat.pow_pos (by omega)
  have hp' : (0 : Int) ≤ ((2 : Nat) ^ n : Nat) := by omega
  rw [Int.fdiv_eq_ediv_of_nonneg _ hp', Int.fdiv_eq_ediv_of_nonneg _ hp']
  exact Int.ediv_le_ediv (by omega) h

theorem pow_cast (n : Nat) : ((2 : Nat) ^ n : Nat) = ((2 : Int) ^ n) := by simp

theorem run_shl {P : Program} {w : World} {t : TypeId} {k yk : IntKind} {x y : Int} (hy : ¬ y < 0) : (binOp .shl t (.int k x) (.int yk y)).run P w = .ok (.int k (k.wrap (x * ((2 : Nat) ^ (min y.toNat k.bits) : Nat)))) w := by
  rw [pow_cast]; simp [binOp, Op.shift, hy]
theorem run_shr {P : Program} {w : World} {t : TypeId} {k yk : IntKind} {x y : Int} (hy : ¬ y < 0) : (binOp .shr t (.int k x) (.int yk y)).run P w = .ok (.int k (x.fdiv ((2 : Nat) ^ (min y.toNat k.bits) : Nat))) w := by
  rw [pow_cast]; simp [binOp, Op.shift, hy]

theorem intBinA_ok {P : Program} {q : Nat} (hq : q < 8) {μ : Mu} {op : BinOp} {a b r : AV} {va vb : Value} (h : intBinA op a b = some r) (ha : Rep q μ a va) (hb : Rep q μ b vb) (t : TypeId) (w : World) :
    ∃ v, (binOp op t va vb).run P w = .ok v w ∧ Rep q μ r v := by
  unfold intBinA at h
  split at h
  · rename_i k x yk y
    simp only [Rep] at ha hb
    subst ha hb
    unfold shiftA at h
    by_cases hy : y < 0
    · simp [hy] at h
    · simp only [hy, decide_false, cond_false, Option.some.injEq] at h
      subst h
      exact ⟨_, run_shl hy, int_rep (wrapF_eq _ _).symm⟩
  · rename_i k x yk y
    simp only [Rep] at ha hb
    subst ha hb
    unfold shiftA at h
    by_cases hy : y < 0
    · simp [hy] at h
    · simp only [hy, decide_false, cond_false, Option.some.injEq] at h
      subst h
      exact ⟨_, run_shr hy, int_rep rfl⟩
  · rename_i yk y _
    split at h
    · rename_i k lo hi hbd
      obtain ⟨n, rfl, _, _⟩ := bnd_ok hq hbd ha
      simp only [Rep] at hb
      subst hb
      by_cases hy : y < 0
      · simp [hy] at h
      · simp only [hy, decide_false, cond_false, Option.some.injEq] at h
        subst h
        refine ⟨_, run_shl hy, ?_⟩
        simp only [Rep]
        exact ⟨_, rfl, wrap_range _ _⟩
    · cases h
  · rename_i yk y _
    split at h
    · rename_i k lo hi hbd
      obtain ⟨n, rfl, h1, h2⟩ := bnd_ok hq hbd ha
      simp only [Rep] at hb
      subst hb
      by_cases hy : y < 0
      · simp [hy] at h
      · simp only [hy, decide_false, cond_false, Option.some.injEq] at h
        subst h
        refine ⟨_, run_shr hy, ?_⟩
        simp only [Rep]
        exact ⟨_, rfl, fdiv_mono h1, fdiv_mono h2⟩
    · cases h
  · cases h
  · cases h
  · rename_i k x k' y _ _
    simp only [Rep] at ha hb
    subst ha hb
    by_cases hk : k = k'
    · subst hk
      simp only [decide_true, cond_true] at h
      rw [binOp_ty]
      exact (knownA_ok h w).2.2
    · simp [hk] at h
  · split at h
    · rename_i k l1 h1 k' l2 h2 ba bb
      by_cases hk : k = k'
      · subst hk
        simp only [decide_true, cond_true] at h
        obtain ⟨x, rfl, x1, x2⟩ := bnd_ok hq ba ha
        obtain ⟨y, rfl, y1, y2⟩ := bnd_ok hq bb hb
        rw [binOp_ty]
        split at h
        · rename_i r' hr
          simp only [Option.some.injEq] at h
          subst h
          exact addq_ok hq hr ha hb w
        · exact vagueA_ok x1 x2 y1 y2 h w
      · simp [hk] at h
    · cases h

end Go.Proofs.YtdkcihleblbkaaaGreatDoor.Eng
