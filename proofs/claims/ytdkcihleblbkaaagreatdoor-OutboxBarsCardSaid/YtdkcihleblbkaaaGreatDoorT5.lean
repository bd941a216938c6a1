/- A verified symbolic executor, part T5: what is asked of this program's tables holds (all but the sum's contract); rows printed by a program of mine (Print2). -/
import Derived.Test.YtdkcihleblbkaaaGreatDoorT4
namespace Go.Proofs.YtdkcihleblbkaaaGreatDoor.Eng
set_option linter.unusedVariables false
set_option linter.unusedSimpArgs false
set_option linter.unusedSectionVars false
open Go Go.Proofs
set_option maxRecDepth 1000000

set_option linter.unusedVariables false

/-- of all entries of a table: at what key each lies -/
def AllT {α : Type} (Q : Nat → α → Prop) (m c : Nat) : T α → Prop
  | .leaf => True
  | .node l v r => (∀ x, v = some x → Q (m + c) x) ∧ AllT Q (2 * m) c l ∧ AllT Q (2 * m) (c + m) r

theorem AllT.get {α : Type} {Q : Nat → α → Prop} : ∀ {t : T α} {m c : Nat}, AllT Q m c t → ∀ n x, 1 ≤ n → t.get n = some x → Q (n * m + c) x
  | .leaf, m, c, _, n, x, _, h => by simp [T.get] at h
  | .node l v r, m, c, ha, n, x, hn, h => by
    obtain ⟨h1, h2, h3⟩ := ha
    simp only [T.get] at h
    cases hb : Nat.beq n 1 with
    | true =>
      simp only [hb, cond_true] at h
      have := Nat.eq_of_beq_eq_true hb
      subst this
      rw [Nat.one_mul]
      exact h1 x h
    | false =>
      have hne : n ≠ 1 := fun e => by subst e; simp at hb
      have hd : Nat.div n 2 = n / 2 := rfl
      have hmd : Nat.mod n 2 = n % 2 := rfl
      simp only [hb, cond_false] at h
      cases hm : Nat.beq (Nat.mod n 2) 0 with
      | true =>
        simp only [hm, cond_true] at h
        have hm := Nat.eq_of_beq_eq_true hm
        have := AllT.get h2 _ x (by rw [hd]; omega) h
        have e : Nat.div n 2 * (2 * m) + c = n * m + c := by
          rw [hd, ← Nat.mul_assoc]; congr 2; omega
        rwa [e] at this
      | false =>
        simp only [hm, cond_false] at h
        have hm : n % 2 ≠ 0 := fun e => by rw [hmd, e] at hm; simp at hm
        have := AllT.get h3 _ x (by rw [hd]; omega) h
        have e : Nat.div n 2 * (2 * m) + (c + m) = n * m + c := by
          rw [hd, ← Nat.mul_assoc]
          have : n / 2 * 2 + 1 = n := by omega
          calc n / 2 * 2 * m + (c + m) = (n / 2 * 2 + 1) * m + c := by rw [Nat.add_mul, Nat.one_mul]; omega
            _ = n * m + c := by rw [this]
        rwa [e] at this

theorem AllT.atk {α : Type} {Q : Nat → α → Prop} {t : T α} (h : AllT Q 1 0 t) (k : Nat) (x : α) (hk : t.at_ k = some x) : Q (k + 1) x := by
  have := AllT.get h (k + 1) x (by omega) hk
  rwa [Nat.mul_one, Nat.add_zero] at this

def fldsB (D : Ty) (c : Cls) : Bool := match c with
  | .strct fs => fs.all fun f => (D f.1).isSome
  | _ => true

def FlatAt (t : TypeId) : Prop := Tryz.prog.stoodInHeld t = false ∧ Tryz.prog.eqGuardType Tryz.prog.depth t = false ∧ ∀ f ∈ (Tryz.prog.fieldsOf t).toList, f.name ≠ "_"

def TyP (t : TypeId) (ti : TI) : Prop := mkTI Tryz.prog t ti.eqs = some ti ∧ fldsB dt1.at_ ti.cls = true ∧ (ti.eqs = true → FlatAt t)
/-- at key k (from 1 on) -/
def TyQ' (k : Nat) (ti : TI) : Prop := TyP (k - 1) ti
abbrev TyQ (t : Nat) (ti : TI) : Prop := TyQ' (t + 1) ti
def FnP (k : FuncId) (fn : Func) : Prop := Tryz.prog.funcs[k]? = some fn ∧ Enters Tryz.prog k
def FnQ (k : Nat) (fn : Func) : Prop := FnP (k - 1) fn

theorem flat43 : FlatAt 43 := ⟨by kernel_rfl, by kernel_rfl, by
  have h : (Tryz.prog.fieldsOf 43).toList.all (fun f => !(f.name == "_")) = true := by kernel_rfl
  intro f hf
  have := List.all_eq_true.1 h f hf
  simpa using this⟩
theorem dq1 : TyQ 1 ti1 := ⟨by kernel_rfl, by kernel_rfl, fun h => nomatch h⟩
theorem dq2 : TyQ 2 ti2 := ⟨by kernel_rfl, by kernel_rfl, fun h => nomatch h⟩
theorem dq3 : TyQ 3 ti3 := ⟨by kernel_rfl, by kernel_rfl, fun h => nomatch h⟩
theorem dq4 : TyQ 4 ti4 := ⟨by kernel_rfl, by kernel_rfl, fun h => nomatch h⟩
theorem dq5 : TyQ 5 ti5 := ⟨by kernel_rfl, by kernel_rfl, fun h => nomatch h⟩
theorem dq6 : TyQ 6 ti6 := ⟨by kernel_rfl, by kernel_rfl, fun h => nomatch h⟩
theorem dq7 : TyQ 7 ti7 := ⟨by kernel_rfl, by kernel_rfl, fun h => nomatch h⟩
theorem dq8 : TyQ 8 ti8 := ⟨by kernel_rfl, by kernel_rfl, fun h => nomatch h⟩
theorem dq9 : TyQ 9 ti9 := ⟨by kernel_rfl, by kernel_rfl, fun h => nomatch h⟩
theorem dq10 : TyQ 10 ti10 := ⟨by kernel_rfl, by kernel_rfl, fun h => nomatch h⟩
theorem dq11 : TyQ 11 ti11 := ⟨by kernel_rfl, by kernel_rfl, fun h => nomatch h⟩
theorem dq12 : TyQ 12 ti12 := ⟨by kernel_rfl, by kernel_rfl, fun h => nomatch h⟩
theorem dq13 : TyQ 13 ti13 := ⟨by kernel_rfl, by kernel_rfl, fun h => nomatch h⟩
theorem dq14 : TyQ 14 ti14 := ⟨by kernel_rfl, by kernel_rfl, fun h => nomatch h⟩
theorem dq15 : TyQ 15 ti15 := ⟨by kernel_rfl, by kernel_rfl, fun h => nomatch h⟩
theorem dq16 : TyQ 16 ti16 := ⟨by kernel_rfl, by kernel_rfl, fun h => nomatch h⟩
theorem dq17 : TyQ 17 ti17 := ⟨by kernel_rfl, by kernel_rfl, fun h => nomatch h⟩
theorem dq18 : TyQ 18 ti18 := ⟨by kernel_rfl, by kernel_rfl, fun h => nomatch h⟩
theorem dq19 : TyQ 19 ti19 := ⟨by kernel_rfl, by kernel_rfl, fun h => nomatch h⟩
theorem dq20 : TyQ 20 ti20 := ⟨by kernel_rfl, by kernel_rfl, fun h => nomatch h⟩
theorem dq21 : TyQ 21 ti21 := ⟨by kernel_rfl, by kernel_rfl, fun h => nomatch h⟩
theorem dq22 : TyQ 22 ti22 := ⟨by kernel_rfl, by kernel_rfl, fun h => nomatch h⟩
theorem dq23 : TyQ 23 ti23 := ⟨by kernel_rfl, by kernel_rfl, fun h => nomatch h⟩
theorem dq24 : TyQ 24 ti24 := ⟨by kernel_rfl, by kernel_rfl, fun h => nomatch h⟩
theorem dq26 : TyQ 26 ti26 := ⟨by kernel_rfl, by kernel_rfl, fun h => nomatch h⟩
theorem dq27 : TyQ 27 ti27 := ⟨by kernel_rfl, by kernel_rfl, fun h => nomatch h⟩
theorem dq28 : TyQ 28 ti28 := ⟨by kernel_rfl, by kernel_rfl, fun h => nomatch h⟩
theorem dq29 : TyQ 29 ti29 := ⟨by kernel_rfl, by kernel_rfl, fun h => nomatch h⟩
theorem dq30 : TyQ 30 ti30 := ⟨by kernel_rfl, by kernel_rfl, fun h => nomatch h⟩
theorem dq31 : TyQ 31 ti31 := ⟨by kernel_rfl, by kernel_rfl, fun h => nomatch h⟩
theorem dq32 : TyQ 32 ti32 := ⟨by kernel_rfl, by kernel_rfl, fun h => nomatch h⟩
theorem dq33 : TyQ 33 ti33 := ⟨by kernel_rfl, by kernel_rfl, fun h => nomatch h⟩
theorem dq34 : TyQ 34 ti34 := ⟨by kernel_rfl, by kernel_rfl, fun h => nomatch h⟩
theorem dq35 : TyQ 35 ti35 := ⟨by kernel_rfl, by kernel_rfl, fun h => nomatch h⟩
theorem dq36 : TyQ 36 ti36 := ⟨by kernel_rfl, by kernel_rfl, fun h => nomatch h⟩
theorem dq38 : TyQ 38 ti38 := ⟨by kernel_rfl, by kernel_rfl, fun h => nomatch h⟩
theorem dq39 : TyQ 39 ti39 := ⟨by kernel_rfl, by kernel_rfl, fun h => nomatch h⟩
theorem dq40 : TyQ 40 ti40 := ⟨by kernel_rfl, by kernel_rfl, fun h => nomatch h⟩
theorem dq41 : TyQ 41 ti41 := ⟨by kernel_rfl, by kernel_rfl, fun h => nomatch h⟩
theorem dq42 : TyQ 42 ti42 := ⟨by kernel_rfl, by kernel_rfl, fun h => nomatch h⟩
theorem dq43 : TyQ 43 ti43 := ⟨by kernel_rfl, by kernel_rfl, fun _ => flat43⟩
theorem dq45 : TyQ 45 ti45 := ⟨by kernel_rfl, by kernel_rfl, fun h => nomatch h⟩
theorem dq46 : TyQ 46 ti46 := ⟨by kernel_rfl, by kernel_rfl, fun h => nomatch h⟩
theorem dq47 : TyQ 47 ti47 := ⟨by kernel_rfl, by kernel_rfl, fun h => nomatch h⟩
theorem dq48 : TyQ 48 ti48 := ⟨by kernel_rfl, by kernel_rfl, fun h => nomatch h⟩
theorem dq49 : TyQ 49 ti49 := ⟨by kernel_rfl, by kernel_rfl, fun h => nomatch h⟩
theorem dq50 : TyQ 50 ti50 := ⟨by kernel_rfl, by kernel_rfl, fun h => nomatch h⟩
theorem dq51 : TyQ 51 ti51 := ⟨by kernel_rfl, by kernel_rfl, fun h => nomatch h⟩
theorem dq52 : TyQ 52 ti52 := ⟨by kernel_rfl, by kernel_rfl, fun h => nomatch h⟩
theorem dq53 : TyQ 53 ti53 := ⟨by kernel_rfl, by kernel_rfl, fun h => nomatch h⟩
theorem dq55 : TyQ 55 ti55 := ⟨by kernel_rfl, by kernel_rfl, fun h => nomatch h⟩
theorem dq56 : TyQ 56 ti56 := ⟨by kernel_rfl, by kernel_rfl, fun h => nomatch h⟩
theorem dq57 : TyQ 57 ti57 := ⟨by kernel_rfl, by kernel_rfl, fun h => nomatch h⟩
theorem dq58 : TyQ 58 ti58 := ⟨by kernel_rfl, by kernel_rfl, fun h => nomatch h⟩
theorem dq59 : TyQ 59 ti59 := ⟨by kernel_rfl, by kernel_rfl, fun h => nomatch h⟩
theorem dq60 : TyQ 60 ti60 := ⟨by kernel_rfl, by kernel_rfl, fun h => nomatch h⟩
theorem dq61 : TyQ 61 ti61 := ⟨by kernel_rfl, by kernel_rfl, fun h => nomatch h⟩
theorem dq62 : TyQ 62 ti62 := ⟨by kernel_rfl, by kernel_rfl, fun h => nomatch h⟩
theorem dq64 : TyQ 64 ti64 := ⟨by kernel_rfl, by kernel_rfl, fun h => nomatch h⟩
theorem dq65 : TyQ 65 ti65 := ⟨by kernel_rfl, by kernel_rfl, fun h => nomatch h⟩
theorem dq66 : TyQ 66 ti66 := ⟨by kernel_rfl, by kernel_rfl, fun h => nomatch h⟩
theorem dq68 : TyQ 68 ti68 := ⟨by kernel_rfl, by kernel_rfl, fun h => nomatch h⟩
theorem dq69 : TyQ 69 ti69 := ⟨by kernel_rfl, by kernel_rfl, fun h => nomatch h⟩
theorem dq70 : TyQ 70 ti70 := ⟨by kernel_rfl, by kernel_rfl, fun h => nomatch h⟩
theorem dq71 : TyQ 71 ti71 := ⟨by kernel_rfl, by kernel_rfl, fun h => nomatch h⟩
theorem dq72 : TyQ 72 ti72 := ⟨by kernel_rfl, by kernel_rfl, fun h => nomatch h⟩
theorem dq73 : TyQ 73 ti73 := ⟨by kernel_rfl, by kernel_rfl, fun h => nomatch h⟩
theorem dq74 : TyQ 74 ti74 := ⟨by kernel_rfl, by kernel_rfl, fun h => nomatch h⟩
theorem dq75 : TyQ 75 ti75 := ⟨by kernel_rfl, by kernel_rfl, fun h => nomatch h⟩
theorem dq77 : TyQ 77 ti77 := ⟨by kernel_rfl, by kernel_rfl, fun h => nomatch h⟩
theorem dq78 : TyQ 78 ti78 := ⟨by kernel_rfl, by kernel_rfl, fun h => nomatch h⟩
theorem dq79 : TyQ 79 ti79 := ⟨by kernel_rfl, by kernel_rfl, fun h => nomatch h⟩
theorem dq80 : TyQ 80 ti80 := ⟨by kernel_rfl, by kernel_rfl, fun h => nomatch h⟩
theorem dq81 : TyQ 81 ti81 := ⟨by kernel_rfl, by kernel_rfl, fun h => nomatch h⟩
theorem dq82 : TyQ 82 ti82 := ⟨by kernel_rfl, by kernel_rfl, fun h => nomatch h⟩
theorem dq83 : TyQ 83 ti83 := ⟨by kernel_rfl, by kernel_rfl, fun h => nomatch h⟩
theorem dq84 : TyQ 84 ti84 := ⟨by kernel_rfl, by kernel_rfl, fun h => nomatch h⟩
theorem dq85 : TyQ 85 ti85 := ⟨by kernel_rfl, by kernel_rfl, fun h => nomatch h⟩
theorem dq86 : TyQ 86 ti86 := ⟨by kernel_rfl, by kernel_rfl, fun h => nomatch h⟩
theorem dq87 : TyQ 87 ti87 := ⟨by kernel_rfl, by kernel_rfl, fun h => nomatch h⟩
theorem dq89 : TyQ 89 ti89 := ⟨by kernel_rfl, by kernel_rfl, fun h => nomatch h⟩
theorem dq91 : TyQ 91 ti91 := ⟨by kernel_rfl, by kernel_rfl, fun h => nomatch h⟩
theorem dq92 : TyQ 92 ti92 := ⟨by kernel_rfl, by kernel_rfl, fun h => nomatch h⟩
theorem dq93 : TyQ 93 ti93 := ⟨by kernel_rfl, by kernel_rfl, fun h => nomatch h⟩
theorem dq94 : TyQ 94 ti94 := ⟨by kernel_rfl, by kernel_rfl, fun h => nomatch h⟩
theorem dq96 : TyQ 96 ti96 := ⟨by kernel_rfl, by kernel_rfl, fun h => nomatch h⟩
theorem dq97 : TyQ 97 ti97 := ⟨by kernel_rfl, by kernel_rfl, fun h => nomatch h⟩
theorem dq98 : TyQ 98 ti98 := ⟨by kernel_rfl, by kernel_rfl, fun h => nomatch h⟩
theorem dq99 : TyQ 99 ti99 := ⟨by kernel_rfl, by kernel_rfl, fun h => nomatch h⟩
theorem dq100 : TyQ 100 ti100 := ⟨by kernel_rfl, by kernel_rfl, fun h => nomatch h⟩
theorem dq101 : TyQ 101 ti101 := ⟨by kernel_rfl, by kernel_rfl, fun h => nomatch h⟩
theorem dq102 : TyQ 102 ti102 := ⟨by kernel_rfl, by kernel_rfl, fun h => nomatch h⟩
theorem dq103 : TyQ 103 ti103 := ⟨by kernel_rfl, by kernel_rfl, fun h => nomatch h⟩
theorem dq104 : TyQ 104 ti104 := ⟨by kernel_rfl, by kernel_rfl, fun h => nomatch h⟩
theorem dq105 : TyQ 105 ti105 := ⟨by kernel_rfl, by kernel_rfl, fun h => nomatch h⟩
theorem dq106 : TyQ 106 ti106 := ⟨by kernel_rfl, by kernel_rfl, fun h => nomatch h⟩
theorem dq107 : TyQ 107 ti107 := ⟨by kernel_rfl, by kernel_rfl, fun h => nomatch h⟩
theorem dq108 : TyQ 108 ti108 := ⟨by kernel_rfl, by kernel_rfl, fun h => nomatch h⟩
theorem dq109 : TyQ 109 ti109 := ⟨by kernel_rfl, by kernel_rfl, fun h => nomatch h⟩
theorem dq110 : TyQ 110 ti110 := ⟨by kernel_rfl, by kernel_rfl, fun h => nomatch h⟩
theorem dq111 : TyQ 111 ti111 := ⟨by kernel_rfl, by kernel_rfl, fun h => nomatch h⟩
theorem dq112 : TyQ 112 ti112 := ⟨by kernel_rfl, by kernel_rfl, fun h => nomatch h⟩
theorem dq113 : TyQ 113 ti113 := ⟨by kernel_rfl, by kernel_rfl, fun h => nomatch h⟩
theorem dq114 : TyQ 114 ti114 := ⟨by kernel_rfl, by kernel_rfl, fun h => nomatch h⟩
theorem dq115 : TyQ 115 ti115 := ⟨by kernel_rfl, by kernel_rfl, fun h => nomatch h⟩
theorem dq117 : TyQ 117 ti117 := ⟨by kernel_rfl, by kernel_rfl, fun h => nomatch h⟩
theorem dq118 : TyQ 118 ti118 := ⟨by kernel_rfl, by kernel_rfl, fun h => nomatch h⟩
theorem dq119 : TyQ 119 ti119 := ⟨by kernel_rfl, by kernel_rfl, fun h => nomatch h⟩
theorem dq120 : TyQ 120 ti120 := ⟨by kernel_rfl, by kernel_rfl, fun h => nomatch h⟩
theorem dq121 : TyQ 121 ti121 := ⟨by kernel_rfl, by kernel_rfl, fun h => nomatch h⟩
theorem dq122 : TyQ 122 ti122 := ⟨by kernel_rfl, by kernel_rfl, fun h => nomatch h⟩
theorem dq124 : TyQ 124 ti124 := ⟨by kernel_rfl, by kernel_rfl, fun h => nomatch h⟩
theorem dq125 : TyQ 125 ti125 := ⟨by kernel_rfl, by kernel_rfl, fun h => nomatch h⟩
theorem dq126 : TyQ 126 ti126 := ⟨by kernel_rfl, by kernel_rfl, fun h => nomatch h⟩
theorem dq127 : TyQ 127 ti127 := ⟨by kernel_rfl, by kernel_rfl, fun h => nomatch h⟩
theorem dq128 : TyQ 128 ti128 := ⟨by kernel_rfl, by kernel_rfl, fun h => nomatch h⟩
theorem dq129 : TyQ 129 ti129 := ⟨by kernel_rfl, by kernel_rfl, fun h => nomatch h⟩
theorem dq130 : TyQ 130 ti130 := ⟨by kernel_rfl, by kernel_rfl, fun h => nomatch h⟩
theorem dq131 : TyQ 131 ti131 := ⟨by kernel_rfl, by kernel_rfl, fun h => nomatch h⟩
theorem dq132 : TyQ 132 ti132 := ⟨by kernel_rfl, by kernel_rfl, fun h => nomatch h⟩
theorem dq133 : TyQ 133 ti133 := ⟨by kernel_rfl, by kernel_rfl, fun h => nomatch h⟩
theorem dq134 : TyQ 134 ti134 := ⟨by kernel_rfl, by kernel_rfl, fun h => nomatch h⟩
theorem dq135 : TyQ 135 ti135 := ⟨by kernel_rfl, by kernel_rfl, fun h => nomatch h⟩
theorem dq136 : TyQ 136 ti136 := ⟨by kernel_rfl, by kernel_rfl, fun h => nomatch h⟩
theorem dq137 : TyQ 137 ti137 := ⟨by kernel_rfl, by kernel_rfl, fun h => nomatch h⟩
theorem dq138 : TyQ 138 ti138 := ⟨by kernel_rfl, by kernel_rfl, fun h => nomatch h⟩
theorem dq139 : TyQ 139 ti139 := ⟨by kernel_rfl, by kernel_rfl, fun h => nomatch h⟩
theorem dq141 : TyQ 141 ti141 := ⟨by kernel_rfl, by kernel_rfl, fun h => nomatch h⟩
theorem dq142 : TyQ 142 ti142 := ⟨by kernel_rfl, by kernel_rfl, fun h => nomatch h⟩
theorem dq143 : TyQ 143 ti143 := ⟨by kernel_rfl, by kernel_rfl, fun h => nomatch h⟩
theorem dq144 : TyQ 144 ti144 := ⟨by kernel_rfl, by kernel_rfl, fun h => nomatch h⟩
theorem dq145 : TyQ 145 ti145 := ⟨by kernel_rfl, by kernel_rfl, fun h => nomatch h⟩
theorem dq146 : TyQ 146 ti146 := ⟨by kernel_rfl, by kernel_rfl, fun h => nomatch h⟩
theorem dq147 : TyQ 147 ti147 := ⟨by kernel_rfl, by kernel_rfl, fun h => nomatch h⟩
theorem dq148 : TyQ 148 ti148 := ⟨by kernel_rfl, by kernel_rfl, fun h => nomatch h⟩
theorem dq149 : TyQ 149 ti149 := ⟨by kernel_rfl, by kernel_rfl, fun h => nomatch h⟩
theorem dq150 : TyQ 150 ti150 := ⟨by kernel_rfl, by kernel_rfl, fun h => nomatch h⟩
theorem dq152 : TyQ 152 ti152 := ⟨by kernel_rfl, by kernel_rfl, fun h => nomatch h⟩
theorem dq153 : TyQ 153 ti153 := ⟨by kernel_rfl, by kernel_rfl, fun h => nomatch h⟩
theorem dq155 : TyQ 155 ti155 := ⟨by kernel_rfl, by kernel_rfl, fun h => nomatch h⟩
theorem dq156 : TyQ 156 ti156 := ⟨by kernel_rfl, by kernel_rfl, fun h => nomatch h⟩
theorem dq157 : TyQ 157 ti157 := ⟨by kernel_rfl, by kernel_rfl, fun h => nomatch h⟩
theorem dq158 : TyQ 158 ti158 := ⟨by kernel_rfl, by kernel_rfl, fun h => nomatch h⟩
theorem dq159 : TyQ 159 ti159 := ⟨by kernel_rfl, by kernel_rfl, fun h => nomatch h⟩
theorem dq160 : TyQ 160 ti160 := ⟨by kernel_rfl, by kernel_rfl, fun h => nomatch h⟩
theorem dq161 : TyQ 161 ti161 := ⟨by kernel_rfl, by kernel_rfl, fun h => nomatch h⟩
theorem dq162 : TyQ 162 ti162 := ⟨by kernel_rfl, by kernel_rfl, fun h => nomatch h⟩
theorem dq164 : TyQ 164 ti164 := ⟨by kernel_rfl, by kernel_rfl, fun h => nomatch h⟩
theorem dq165 : TyQ 165 ti165 := ⟨by kernel_rfl, by kernel_rfl, fun h => nomatch h⟩
theorem dq166 : TyQ 166 ti166 := ⟨by kernel_rfl, by kernel_rfl, fun h => nomatch h⟩
theorem dq167 : TyQ 167 ti167 := ⟨by kernel_rfl, by kernel_rfl, fun h => nomatch h⟩
theorem dq168 : TyQ 168 ti168 := ⟨by kernel_rfl, by kernel_rfl, fun h => nomatch h⟩
theorem dq170 : TyQ 170 ti170 := ⟨by kernel_rfl, by kernel_rfl, fun h => nomatch h⟩
theorem dq171 : TyQ 171 ti171 := ⟨by kernel_rfl, by kernel_rfl, fun h => nomatch h⟩
theorem dq172 : TyQ 172 ti172 := ⟨by kernel_rfl, by kernel_rfl, fun h => nomatch h⟩
theorem dq173 : TyQ 173 ti173 := ⟨by kernel_rfl, by kernel_rfl, fun h => nomatch h⟩
theorem dq174 : TyQ 174 ti174 := ⟨by kernel_rfl, by kernel_rfl, fun h => nomatch h⟩
theorem dq175 : TyQ 175 ti175 := ⟨by kernel_rfl, by kernel_rfl, fun h => nomatch h⟩
theorem dq176 : TyQ 176 ti176 := ⟨by kernel_rfl, by kernel_rfl, fun h => nomatch h⟩
theorem dq177 : TyQ 177 ti177 := ⟨by kernel_rfl, by kernel_rfl, fun h => nomatch h⟩
theorem dq178 : TyQ 178 ti178 := ⟨by kernel_rfl, by kernel_rfl, fun h => nomatch h⟩
theorem dq179 : TyQ 179 ti179 := ⟨by kernel_rfl, by kernel_rfl, fun h => nomatch h⟩
theorem dq180 : TyQ 180 ti180 := ⟨by kernel_rfl, by kernel_rfl, fun h => nomatch h⟩
theorem dq181 : TyQ 181 ti181 := ⟨by kernel_rfl, by kernel_rfl, fun h => nomatch h⟩
theorem dq182 : TyQ 182 ti182 := ⟨by kernel_rfl, by kernel_rfl, fun h => nomatch h⟩
theorem dq183 : TyQ 183 ti183 := ⟨by kernel_rfl, by kernel_rfl, fun h => nomatch h⟩
theorem dq185 : TyQ 185 ti185 := ⟨by kernel_rfl, by kernel_rfl, fun h => nomatch h⟩
theorem dq186 : TyQ 186 ti186 := ⟨by kernel_rfl, by kernel_rfl, fun h => nomatch h⟩
theorem dq187 : TyQ 187 ti187 := ⟨by kernel_rfl, by kernel_rfl, fun h => nomatch h⟩
theorem dq188 : TyQ 188 ti188 := ⟨by kernel_rfl, by kernel_rfl, fun h => nomatch h⟩
theorem dq190 : TyQ 190 ti190 := ⟨by kernel_rfl, by kernel_rfl, fun h => nomatch h⟩
theorem dq191 : TyQ 191 ti191 := ⟨by kernel_rfl, by kernel_rfl, fun h => nomatch h⟩
theorem dq192 : TyQ 192 ti192 := ⟨by kernel_rfl, by kernel_rfl, fun h => nomatch h⟩
theorem dq194 : TyQ 194 ti194 := ⟨by kernel_rfl, by kernel_rfl, fun h => nomatch h⟩
theorem dq195 : TyQ 195 ti195 := ⟨by kernel_rfl, by kernel_rfl, fun h => nomatch h⟩
theorem dq196 : TyQ 196 ti196 := ⟨by kernel_rfl, by kernel_rfl, fun h => nomatch h⟩
theorem dq197 : TyQ 197 ti197 := ⟨by kernel_rfl, by kernel_rfl, fun h => nomatch h⟩
theorem dq198 : TyQ 198 ti198 := ⟨by kernel_rfl, by kernel_rfl, fun h => nomatch h⟩
theorem dq199 : TyQ 199 ti199 := ⟨by kernel_rfl, by kernel_rfl, fun h => nomatch h⟩
theorem dq201 : TyQ 201 ti201 := ⟨by kernel_rfl, by kernel_rfl, fun h => nomatch h⟩
theorem dq203 : TyQ 203 ti203 := ⟨by kernel_rfl, by kernel_rfl, fun h => nomatch h⟩
theorem dq204 : TyQ 204 ti204 := ⟨by kernel_rfl, by kernel_rfl, fun h => nomatch h⟩
theorem dq205 : TyQ 205 ti205 := ⟨by kernel_rfl, by kernel_rfl, fun h => nomatch h⟩
theorem dq206 : TyQ 206 ti206 := ⟨by kernel_rfl, by kernel_rfl, fun h => nomatch h⟩
theorem dq207 : TyQ 207 ti207 := ⟨by kernel_rfl, by kernel_rfl, fun h => nomatch h⟩
theorem dq209 : TyQ 209 ti209 := ⟨by kernel_rfl, by kernel_rfl, fun h => nomatch h⟩
theorem dq210 : TyQ 210 ti210 := ⟨by kernel_rfl, by kernel_rfl, fun h => nomatch h⟩
theorem dq211 : TyQ 211 ti211 := ⟨by kernel_rfl, by kernel_rfl, fun h => nomatch h⟩
theorem dq212 : TyQ 212 ti212 := ⟨by kernel_rfl, by kernel_rfl, fun h => nomatch h⟩
theorem dq213 : TyQ 213 ti213 := ⟨by kernel_rfl, by kernel_rfl, fun h => nomatch h⟩
theorem dq214 : TyQ 214 ti214 := ⟨by kernel_rfl, by kernel_rfl, fun h => nomatch h⟩
theorem dq215 : TyQ 215 ti215 := ⟨by kernel_rfl, by kernel_rfl, fun h => nomatch h⟩
theorem dq217 : TyQ 217 ti217 := ⟨by kernel_rfl, by kernel_rfl, fun h => nomatch h⟩
theorem dq218 : TyQ 218 ti218 := ⟨by kernel_rfl, by kernel_rfl, fun h => nomatch h⟩
theorem dq219 : TyQ 219 ti219 := ⟨by kernel_rfl, by kernel_rfl, fun h => nomatch h⟩
theorem dq220 : TyQ 220 ti220 := ⟨by kernel_rfl, by kernel_rfl, fun h => nomatch h⟩
theorem dq221 : TyQ 221 ti221 := ⟨by kernel_rfl, by kernel_rfl, fun h => nomatch h⟩
theorem dq222 : TyQ 222 ti222 := ⟨by kernel_rfl, by kernel_rfl, fun h => nomatch h⟩
theorem dq223 : TyQ 223 ti223 := ⟨by kernel_rfl, by kernel_rfl, fun h => nomatch h⟩
theorem dq224 : TyQ 224 ti224 := ⟨by kernel_rfl, by kernel_rfl, fun h => nomatch h⟩
theorem dq225 : TyQ 225 ti225 := ⟨by kernel_rfl, by kernel_rfl, fun h => nomatch h⟩
theorem dq226 : TyQ 226 ti226 := ⟨by kernel_rfl, by kernel_rfl, fun h => nomatch h⟩
theorem dq227 : TyQ 227 ti227 := ⟨by kernel_rfl, by kernel_rfl, fun h => nomatch h⟩
theorem dq228 : TyQ 228 ti228 := ⟨by kernel_rfl, by kernel_rfl, fun h => nomatch h⟩
theorem dq229 : TyQ 229 ti229 := ⟨by kernel_rfl, by kernel_rfl, fun h => nomatch h⟩
theorem dq230 : TyQ 230 ti230 := ⟨by kernel_rfl, by kernel_rfl, fun h => nomatch h⟩
theorem dq232 : TyQ 232 ti232 := ⟨by kernel_rfl, by kernel_rfl, fun h => nomatch h⟩
theorem dq233 : TyQ 233 ti233 := ⟨by kernel_rfl, by kernel_rfl, fun h => nomatch h⟩
theorem dq234 : TyQ 234 ti234 := ⟨by kernel_rfl, by kernel_rfl, fun h => nomatch h⟩
theorem dq235 : TyQ 235 ti235 := ⟨by kernel_rfl, by kernel_rfl, fun h => nomatch h⟩
theorem dq236 : TyQ 236 ti236 := ⟨by kernel_rfl, by kernel_rfl, fun h => nomatch h⟩
theorem dq237 : TyQ 237 ti237 := ⟨by kernel_rfl, by kernel_rfl, fun h => nomatch h⟩
theorem dq238 : TyQ 238 ti238 := ⟨by kernel_rfl, by kernel_rfl, fun h => nomatch h⟩
theorem dq239 : TyQ 239 ti239 := ⟨by kernel_rfl, by kernel_rfl, fun h => nomatch h⟩
theorem dq240 : TyQ 240 ti240 := ⟨by kernel_rfl, by kernel_rfl, fun h => nomatch h⟩
theorem dq241 : TyQ 241 ti241 := ⟨by kernel_rfl, by kernel_rfl, fun h => nomatch h⟩
theorem dq242 : TyQ 242 ti242 := ⟨by kernel_rfl, by kernel_rfl, fun h => nomatch h⟩
theorem dq243 : TyQ 243 ti243 := ⟨by kernel_rfl, by kernel_rfl, fun h => nomatch h⟩
theorem dq244 : TyQ 244 ti244 := ⟨by kernel_rfl, by kernel_rfl, fun h => nomatch h⟩
theorem dq245 : TyQ 245 ti245 := ⟨by kernel_rfl, by kernel_rfl, fun h => nomatch h⟩
theorem dq246 : TyQ 246 ti246 := ⟨by kernel_rfl, by kernel_rfl, fun h => nomatch h⟩
theorem dq247 : TyQ 247 ti247 := ⟨by kernel_rfl, by kernel_rfl, fun h => nomatch h⟩
theorem dq248 : TyQ 248 ti248 := ⟨by kernel_rfl, by kernel_rfl, fun h => nomatch h⟩
theorem dq249 : TyQ 249 ti249 := ⟨by kernel_rfl, by kernel_rfl, fun h => nomatch h⟩
theorem dq250 : TyQ 250 ti250 := ⟨by kernel_rfl, by kernel_rfl, fun h => nomatch h⟩
theorem dq251 : TyQ 251 ti251 := ⟨by kernel_rfl, by kernel_rfl, fun h => nomatch h⟩
theorem dq253 : TyQ 253 ti253 := ⟨by kernel_rfl, by kernel_rfl, fun h => nomatch h⟩
theorem dq254 : TyQ 254 ti254 := ⟨by kernel_rfl, by kernel_rfl, fun h => nomatch h⟩
theorem dq255 : TyQ 255 ti255 := ⟨by kernel_rfl, by kernel_rfl, fun h => nomatch h⟩
theorem dq256 : TyQ 256 ti256 := ⟨by kernel_rfl, by kernel_rfl, fun h => nomatch h⟩
theorem dq257 : TyQ 257 ti257 := ⟨by kernel_rfl, by kernel_rfl, fun h => nomatch h⟩
theorem dq258 : TyQ 258 ti258 := ⟨by kernel_rfl, by kernel_rfl, fun h => nomatch h⟩
theorem dq260 : TyQ 260 ti260 := ⟨by kernel_rfl, by kernel_rfl, fun h => nomatch h⟩
theorem dq261 : TyQ 261 ti261 := ⟨by kernel_rfl, by kernel_rfl, fun h => nomatch h⟩
theorem dq263 : TyQ 263 ti263 := ⟨by kernel_rfl, by kernel_rfl, fun h => nomatch h⟩
theorem dq264 : TyQ 264 ti264 := ⟨by kernel_rfl, by kernel_rfl, fun h => nomatch h⟩
theorem dq265 : TyQ 265 ti265 := ⟨by kernel_rfl, by kernel_rfl, fun h => nomatch h⟩
theorem dq266 : TyQ 266 ti266 := ⟨by kernel_rfl, by kernel_rfl, fun h => nomatch h⟩
theorem dq267 : TyQ 267 ti267 := ⟨by kernel_rfl, by kernel_rfl, fun h => nomatch h⟩
theorem dq268 : TyQ 268 ti268 := ⟨by kernel_rfl, by kernel_rfl, fun h => nomatch h⟩
theorem dq270 : TyQ 270 ti270 := ⟨by kernel_rfl, by kernel_rfl, fun h => nomatch h⟩
theorem dq271 : TyQ 271 ti271 := ⟨by kernel_rfl, by kernel_rfl, fun h => nomatch h⟩
theorem dq272 : TyQ 272 ti272 := ⟨by kernel_rfl, by kernel_rfl, fun h => nomatch h⟩
theorem dq273 : TyQ 273 ti273 := ⟨by kernel_rfl, by kernel_rfl, fun h => nomatch h⟩
theorem dq274 : TyQ 274 ti274 := ⟨by kernel_rfl, by kernel_rfl, fun h => nomatch h⟩
theorem dq276 : TyQ 276 ti276 := ⟨by kernel_rfl, by kernel_rfl, fun h => nomatch h⟩
theorem dq277 : TyQ 277 ti277 := ⟨by kernel_rfl, by kernel_rfl, fun h => nomatch h⟩
theorem dq278 : TyQ 278 ti278 := ⟨by kernel_rfl, by kernel_rfl, fun h => nomatch h⟩
theorem dq279 : TyQ 279 ti279 := ⟨by kernel_rfl, by kernel_rfl, fun h => nomatch h⟩
theorem dq280 : TyQ 280 ti280 := ⟨by kernel_rfl, by kernel_rfl, fun h => nomatch h⟩
theorem dq281 : TyQ 281 ti281 := ⟨by kernel_rfl, by kernel_rfl, fun h => nomatch h⟩
theorem dq282 : TyQ 282 ti282 := ⟨by kernel_rfl, by kernel_rfl, fun h => nomatch h⟩
theorem dq283 : TyQ 283 ti283 := ⟨by kernel_rfl, by kernel_rfl, fun h => nomatch h⟩
theorem dq284 : TyQ 284 ti284 := ⟨by kernel_rfl, by kernel_rfl, fun h => nomatch h⟩
theorem dq285 : TyQ 285 ti285 := ⟨by kernel_rfl, by kernel_rfl, fun h => nomatch h⟩
theorem dq287 : TyQ 287 ti287 := ⟨by kernel_rfl, by kernel_rfl, fun h => nomatch h⟩
theorem dq288 : TyQ 288 ti288 := ⟨by kernel_rfl, by kernel_rfl, fun h => nomatch h⟩
theorem dq289 : TyQ 289 ti289 := ⟨by kernel_rfl, by kernel_rfl, fun h => nomatch h⟩
theorem dq290 : TyQ 290 ti290 := ⟨by kernel_rfl, by kernel_rfl, fun h => nomatch h⟩
theorem dq291 : TyQ 291 ti291 := ⟨by kernel_rfl, by kernel_rfl, fun h => nomatch h⟩
theorem dq292 : TyQ 292 ti292 := ⟨by kernel_rfl, by kernel_rfl, fun h => nomatch h⟩
theorem dq293 : TyQ 293 ti293 := ⟨by kernel_rfl, by kernel_rfl, fun h => nomatch h⟩
theorem dq294 : TyQ 294 ti294 := ⟨by kernel_rfl, by kernel_rfl, fun h => nomatch h⟩
theorem dq295 : TyQ 295 ti295 := ⟨by kernel_rfl, by kernel_rfl, fun h => nomatch h⟩
theorem dq296 : TyQ 296 ti296 := ⟨by kernel_rfl, by kernel_rfl, fun h => nomatch h⟩
theorem dq297 : TyQ 297 ti297 := ⟨by kernel_rfl, by kernel_rfl, fun h => nomatch h⟩
theorem dq298 : TyQ 298 ti298 := ⟨by kernel_rfl, by kernel_rfl, fun h => nomatch h⟩
theorem dq299 : TyQ 299 ti299 := ⟨by kernel_rfl, by kernel_rfl, fun h => nomatch h⟩
theorem dq300 : TyQ 300 ti300 := ⟨by kernel_rfl, by kernel_rfl, fun h => nomatch h⟩
theorem dq301 : TyQ 301 ti301 := ⟨by kernel_rfl, by kernel_rfl, fun h => nomatch h⟩
theorem dq302 : TyQ 302 ti302 := ⟨by kernel_rfl, by kernel_rfl, fun h => nomatch h⟩
theorem dq304 : TyQ 304 ti304 := ⟨by kernel_rfl, by kernel_rfl, fun h => nomatch h⟩
theorem dq305 : TyQ 305 ti305 := ⟨by kernel_rfl, by kernel_rfl, fun h => nomatch h⟩
theorem dq306 : TyQ 306 ti306 := ⟨by kernel_rfl, by kernel_rfl, fun h => nomatch h⟩
theorem dq307 : TyQ 307 ti307 := ⟨by kernel_rfl, by kernel_rfl, fun h => nomatch h⟩
theorem dq308 : TyQ 308 ti308 := ⟨by kernel_rfl, by kernel_rfl, fun h => nomatch h⟩
theorem dq309 : TyQ 309 ti309 := ⟨by kernel_rfl, by kernel_rfl, fun h => nomatch h⟩
theorem dq310 : TyQ 310 ti310 := ⟨by kernel_rfl, by kernel_rfl, fun h => nomatch h⟩
theorem dq311 : TyQ 311 ti311 := ⟨by kernel_rfl, by kernel_rfl, fun h => nomatch h⟩
theorem dq312 : TyQ 312 ti312 := ⟨by kernel_rfl, by kernel_rfl, fun h => nomatch h⟩
theorem dq313 : TyQ 313 ti313 := ⟨by kernel_rfl, by kernel_rfl, fun h => nomatch h⟩
theorem dq314 : TyQ 314 ti314 := ⟨by kernel_rfl, by kernel_rfl, fun h => nomatch h⟩
theorem dq315 : TyQ 315 ti315 := ⟨by kernel_rfl, by kernel_rfl, fun h => nomatch h⟩
theorem dq316 : TyQ 316 ti316 := ⟨by kernel_rfl, by kernel_rfl, fun h => nomatch h⟩
theorem dq317 : TyQ 317 ti317 := ⟨by kernel_rfl, by kernel_rfl, fun h => nomatch h⟩
theorem dq319 : TyQ 319 ti319 := ⟨by kernel_rfl, by kernel_rfl, fun h => nomatch h⟩
theorem dq320 : TyQ 320 ti320 := ⟨by kernel_rfl, by kernel_rfl, fun h => nomatch h⟩
theorem dq321 : TyQ 321 ti321 := ⟨by kernel_rfl, by kernel_rfl, fun h => nomatch h⟩
theorem dq322 : TyQ 322 ti322 := ⟨by kernel_rfl, by kernel_rfl, fun h => nomatch h⟩
theorem dq323 : TyQ 323 ti323 := ⟨by kernel_rfl, by kernel_rfl, fun h => nomatch h⟩
theorem dq324 : TyQ 324 ti324 := ⟨by kernel_rfl, by kernel_rfl, fun h => nomatch h⟩
theorem dq327 : TyQ 327 ti327 := ⟨by kernel_rfl, by kernel_rfl, fun h => nomatch h⟩
theorem dq328 : TyQ 328 ti328 := ⟨by kernel_rfl, by kernel_rfl, fun h => nomatch h⟩
theorem dq329 : TyQ 329 ti329 := ⟨by kernel_rfl, by kernel_rfl, fun h => nomatch h⟩
theorem dq330 : TyQ 330 ti330 := ⟨by kernel_rfl, by kernel_rfl, fun h => nomatch h⟩
theorem dq332 : TyQ 332 ti332 := ⟨by kernel_rfl, by kernel_rfl, fun h => nomatch h⟩
theorem dq333 : TyQ 333 ti333 := ⟨by kernel_rfl, by kernel_rfl, fun h => nomatch h⟩
theorem dq334 : TyQ 334 ti334 := ⟨by kernel_rfl, by kernel_rfl, fun h => nomatch h⟩
theorem dq335 : TyQ 335 ti335 := ⟨by kernel_rfl, by kernel_rfl, fun h => nomatch h⟩
theorem dq336 : TyQ 336 ti336 := ⟨by kernel_rfl, by kernel_rfl, fun h => nomatch h⟩
theorem dq337 : TyQ 337 ti337 := ⟨by kernel_rfl, by kernel_rfl, fun h => nomatch h⟩
theorem dq339 : TyQ 339 ti339 := ⟨by kernel_rfl, by kernel_rfl, fun h => nomatch h⟩
theorem dq340 : TyQ 340 ti340 := ⟨by kernel_rfl, by kernel_rfl, fun h => nomatch h⟩
theorem dq341 : TyQ 341 ti341 := ⟨by kernel_rfl, by kernel_rfl, fun h => nomatch h⟩
theorem dq342 : TyQ 342 ti342 := ⟨by kernel_rfl, by kernel_rfl, fun h => nomatch h⟩
theorem dq343 : TyQ 343 ti343 := ⟨by kernel_rfl, by kernel_rfl, fun h => nomatch h⟩
theorem dq344 : TyQ 344 ti344 := ⟨by kernel_rfl, by kernel_rfl, fun h => nomatch h⟩
theorem dq345 : TyQ 345 ti345 := ⟨by kernel_rfl, by kernel_rfl, fun h => nomatch h⟩
theorem dq346 : TyQ 346 ti346 := ⟨by kernel_rfl, by kernel_rfl, fun h => nomatch h⟩
theorem dq347 : TyQ 347 ti347 := ⟨by kernel_rfl, by kernel_rfl, fun h => nomatch h⟩
theorem dq348 : TyQ 348 ti348 := ⟨by kernel_rfl, by kernel_rfl, fun h => nomatch h⟩
theorem dq349 : TyQ 349 ti349 := ⟨by kernel_rfl, by kernel_rfl, fun h => nomatch h⟩
theorem dq350 : TyQ 350 ti350 := ⟨by kernel_rfl, by kernel_rfl, fun h => nomatch h⟩
theorem dq351 : TyQ 351 ti351 := ⟨by kernel_rfl, by kernel_rfl, fun h => nomatch h⟩
theorem dq352 : TyQ 352 ti352 := ⟨by kernel_rfl, by kernel_rfl, fun h => nomatch h⟩
theorem dq353 : TyQ 353 ti353 := ⟨by kernel_rfl, by kernel_rfl, fun h => nomatch h⟩
theorem dq354 : TyQ 354 ti354 := ⟨by kernel_rfl, by kernel_rfl, fun h => nomatch h⟩
theorem dq355 : TyQ 355 ti355 := ⟨by kernel_rfl, by kernel_rfl, fun h => nomatch h⟩
theorem dq356 : TyQ 356 ti356 := ⟨by kernel_rfl, by kernel_rfl, fun h => nomatch h⟩
theorem dq357 : TyQ 357 ti357 := ⟨by kernel_rfl, by kernel_rfl, fun h => nomatch h⟩
theorem dq358 : TyQ 358 ti358 := ⟨by kernel_rfl, by kernel_rfl, fun h => nomatch h⟩
theorem dq359 : TyQ 359 ti359 := ⟨by kernel_rfl, by kernel_rfl, fun h => nomatch h⟩
theorem dq360 : TyQ 360 ti360 := ⟨by kernel_rfl, by kernel_rfl, fun h => nomatch h⟩
theorem dq361 : TyQ 361 ti361 := ⟨by kernel_rfl, by kernel_rfl, fun h => nomatch h⟩
theorem dq363 : TyQ 363 ti363 := ⟨by kernel_rfl, by kernel_rfl, fun h => nomatch h⟩
theorem dq364 : TyQ 364 ti364 := ⟨by kernel_rfl, by kernel_rfl, fun h => nomatch h⟩
theorem dq365 : TyQ 365 ti365 := ⟨by kernel_rfl, by kernel_rfl, fun h => nomatch h⟩
theorem dq366 : TyQ 366 ti366 := ⟨by kernel_rfl, by kernel_rfl, fun h => nomatch h⟩
theorem dq367 : TyQ 367 ti367 := ⟨by kernel_rfl, by kernel_rfl, fun h => nomatch h⟩
theorem dq368 : TyQ 368 ti368 := ⟨by kernel_rfl, by kernel_rfl, fun h => nomatch h⟩
theorem dq369 : TyQ 369 ti369 := ⟨by kernel_rfl, by kernel_rfl, fun h => nomatch h⟩
theorem dq370 : TyQ 370 ti370 := ⟨by kernel_rfl, by kernel_rfl, fun h => nomatch h⟩
theorem dq371 : TyQ 371 ti371 := ⟨by kernel_rfl, by kernel_rfl, fun h => nomatch h⟩
theorem dq372 : TyQ 372 ti372 := ⟨by kernel_rfl, by kernel_rfl, fun h => nomatch h⟩
theorem dq373 : TyQ 373 ti373 := ⟨by kernel_rfl, by kernel_rfl, fun h => nomatch h⟩
theorem dq374 : TyQ 374 ti374 := ⟨by kernel_rfl, by kernel_rfl, fun h => nomatch h⟩
theorem dq375 : TyQ 375 ti375 := ⟨by kernel_rfl, by kernel_rfl, fun h => nomatch h⟩
theorem dq376 : TyQ 376 ti376 := ⟨by kernel_rfl, by kernel_rfl, fun h => nomatch h⟩
theorem dq377 : TyQ 377 ti377 := ⟨by kernel_rfl, by kernel_rfl, fun h => nomatch h⟩
theorem dq378 : TyQ 378 ti378 := ⟨by kernel_rfl, by kernel_rfl, fun h => nomatch h⟩
theorem dq379 : TyQ 379 ti379 := ⟨by kernel_rfl, by kernel_rfl, fun h => nomatch h⟩
theorem dq380 : TyQ 380 ti380 := ⟨by kernel_rfl, by kernel_rfl, fun h => nomatch h⟩
theorem dq381 : TyQ 381 ti381 := ⟨by kernel_rfl, by kernel_rfl, fun h => nomatch h⟩
theorem dq382 : TyQ 382 ti382 := ⟨by kernel_rfl, by kernel_rfl, fun h => nomatch h⟩
theorem dq383 : TyQ 383 ti383 := ⟨by kernel_rfl, by kernel_rfl, fun h => nomatch h⟩
theorem dq384 : TyQ 384 ti384 := ⟨by kernel_rfl, by kernel_rfl, fun h => nomatch h⟩
theorem dq385 : TyQ 385 ti385 := ⟨by kernel_rfl, by kernel_rfl, fun h => nomatch h⟩
theorem dq386 : TyQ 386 ti386 := ⟨by kernel_rfl, by kernel_rfl, fun h => nomatch h⟩
theorem dq387 : TyQ 387 ti387 := ⟨by kernel_rfl, by kernel_rfl, fun h => nomatch h⟩
theorem dq388 : TyQ 388 ti388 := ⟨by kernel_rfl, by kernel_rfl, fun h => nomatch h⟩
theorem da256 : AllT TyQ' 256 0 dt256 := ⟨fun _ h => by cases h; exact dq255, trivial, trivial⟩
theorem da257 : AllT TyQ' 256 128 dt257 := ⟨fun _ h => by cases h; exact dq383, trivial, trivial⟩
theorem da128 : AllT TyQ' 128 0 dt128 := ⟨fun _ h => by cases h; exact dq127, da256, da257⟩
theorem da258 : AllT TyQ' 256 64 dt258 := ⟨fun _ h => by cases h; exact dq319, trivial, trivial⟩
theorem da129 : AllT TyQ' 128 64 dt129 := ⟨fun _ h => by cases h; exact dq191, da258, trivial⟩
theorem da64 : AllT TyQ' 64 0 dt64 := ⟨(fun _ h => nomatch h), da128, da129⟩
theorem da260 : AllT TyQ' 256 32 dt260 := ⟨fun _ h => by cases h; exact dq287, trivial, trivial⟩
theorem da130 : AllT TyQ' 128 32 dt130 := ⟨fun _ h => by cases h; exact dq159, da260, trivial⟩
theorem da262 : AllT TyQ' 256 96 dt262 := ⟨fun _ h => by cases h; exact dq351, trivial, trivial⟩
theorem da131 : AllT TyQ' 128 96 dt131 := ⟨fun _ h => by cases h; exact dq223, da262, trivial⟩
theorem da65 : AllT TyQ' 64 32 dt65 := ⟨(fun _ h => nomatch h), da130, da131⟩
theorem da32 : AllT TyQ' 32 0 dt32 := ⟨fun _ h => by cases h; exact dq31, da64, da65⟩
theorem da264 : AllT TyQ' 256 16 dt264 := ⟨fun _ h => by cases h; exact dq271, trivial, trivial⟩
theorem da132 : AllT TyQ' 128 16 dt132 := ⟨fun _ h => by cases h; exact dq143, da264, trivial⟩
theorem da266 : AllT TyQ' 256 80 dt266 := ⟨fun _ h => by cases h; exact dq335, trivial, trivial⟩
theorem da133 : AllT TyQ' 128 80 dt133 := ⟨fun _ h => by cases h; exact dq207, da266, trivial⟩
theorem da66 : AllT TyQ' 64 16 dt66 := ⟨fun _ h => by cases h; exact dq79, da132, da133⟩
theorem da134 : AllT TyQ' 128 48 dt134 := ⟨fun _ h => by cases h; exact dq175, trivial, trivial⟩
theorem da270 : AllT TyQ' 256 112 dt270 := ⟨fun _ h => by cases h; exact dq367, trivial, trivial⟩
theorem da135 : AllT TyQ' 128 112 dt135 := ⟨fun _ h => by cases h; exact dq239, da270, trivial⟩
theorem da67 : AllT TyQ' 64 48 dt67 := ⟨fun _ h => by cases h; exact dq111, da134, da135⟩
theorem da33 : AllT TyQ' 32 16 dt33 := ⟨fun _ h => by cases h; exact dq47, da66, da67⟩
theorem da16 : AllT TyQ' 16 0 dt16 := ⟨fun _ h => by cases h; exact dq15, da32, da33⟩
theorem da272 : AllT TyQ' 256 8 dt272 := ⟨fun _ h => by cases h; exact dq263, trivial, trivial⟩
theorem da136 : AllT TyQ' 128 8 dt136 := ⟨fun _ h => by cases h; exact dq135, da272, trivial⟩
theorem da274 : AllT TyQ' 256 72 dt274 := ⟨fun _ h => by cases h; exact dq327, trivial, trivial⟩
theorem da137 : AllT TyQ' 128 72 dt137 := ⟨fun _ h => by cases h; exact dq199, da274, trivial⟩
theorem da68 : AllT TyQ' 64 8 dt68 := ⟨fun _ h => by cases h; exact dq71, da136, da137⟩
theorem da276 : AllT TyQ' 256 40 dt276 := ⟨fun _ h => by cases h; exact dq295, trivial, trivial⟩
theorem da138 : AllT TyQ' 128 40 dt138 := ⟨fun _ h => by cases h; exact dq167, da276, trivial⟩
theorem da278 : AllT TyQ' 256 104 dt278 := ⟨fun _ h => by cases h; exact dq359, trivial, trivial⟩
theorem da139 : AllT TyQ' 128 104 dt139 := ⟨(fun _ h => nomatch h), da278, trivial⟩
theorem da69 : AllT TyQ' 64 40 dt69 := ⟨fun _ h => by cases h; exact dq103, da138, da139⟩
theorem da34 : AllT TyQ' 32 8 dt34 := ⟨fun _ h => by cases h; exact dq39, da68, da69⟩
theorem da280 : AllT TyQ' 256 24 dt280 := ⟨fun _ h => by cases h; exact dq279, trivial, trivial⟩
theorem da140 : AllT TyQ' 128 24 dt140 := ⟨(fun _ h => nomatch h), da280, trivial⟩
theorem da282 : AllT TyQ' 256 88 dt282 := ⟨fun _ h => by cases h; exact dq343, trivial, trivial⟩
theorem da141 : AllT TyQ' 128 88 dt141 := ⟨fun _ h => by cases h; exact dq215, da282, trivial⟩
theorem da70 : AllT TyQ' 64 24 dt70 := ⟨fun _ h => by cases h; exact dq87, da140, da141⟩
theorem da284 : AllT TyQ' 256 56 dt284 := ⟨fun _ h => by cases h; exact dq311, trivial, trivial⟩
theorem da142 : AllT TyQ' 128 56 dt142 := ⟨fun _ h => by cases h; exact dq183, da284, trivial⟩
theorem da286 : AllT TyQ' 256 120 dt286 := ⟨fun _ h => by cases h; exact dq375, trivial, trivial⟩
theorem da143 : AllT TyQ' 128 120 dt143 := ⟨fun _ h => by cases h; exact dq247, da286, trivial⟩
theorem da71 : AllT TyQ' 64 56 dt71 := ⟨fun _ h => by cases h; exact dq119, da142, da143⟩
theorem da35 : AllT TyQ' 32 24 dt35 := ⟨fun _ h => by cases h; exact dq55, da70, da71⟩
theorem da17 : AllT TyQ' 16 8 dt17 := ⟨fun _ h => by cases h; exact dq23, da34, da35⟩
theorem da8 : AllT TyQ' 8 0 dt8 := ⟨fun _ h => by cases h; exact dq7, da16, da17⟩
theorem da289 : AllT TyQ' 256 132 dt289 := ⟨fun _ h => by cases h; exact dq387, trivial, trivial⟩
theorem da144 : AllT TyQ' 128 4 dt144 := ⟨fun _ h => by cases h; exact dq131, trivial, da289⟩
theorem da290 : AllT TyQ' 256 68 dt290 := ⟨fun _ h => by cases h; exact dq323, trivial, trivial⟩
theorem da145 : AllT TyQ' 128 68 dt145 := ⟨fun _ h => by cases h; exact dq195, da290, trivial⟩
theorem da72 : AllT TyQ' 64 4 dt72 := ⟨(fun _ h => nomatch h), da144, da145⟩
theorem da292 : AllT TyQ' 256 36 dt292 := ⟨fun _ h => by cases h; exact dq291, trivial, trivial⟩
theorem da146 : AllT TyQ' 128 36 dt146 := ⟨(fun _ h => nomatch h), da292, trivial⟩
theorem da294 : AllT TyQ' 256 100 dt294 := ⟨fun _ h => by cases h; exact dq355, trivial, trivial⟩
theorem da147 : AllT TyQ' 128 100 dt147 := ⟨fun _ h => by cases h; exact dq227, da294, trivial⟩
theorem da73 : AllT TyQ' 64 36 dt73 := ⟨fun _ h => by cases h; exact dq99, da146, da147⟩
theorem da36 : AllT TyQ' 32 4 dt36 := ⟨fun _ h => by cases h; exact dq35, da72, da73⟩
theorem da148 : AllT TyQ' 128 20 dt148 := ⟨fun _ h => by cases h; exact dq147, trivial, trivial⟩
theorem da298 : AllT TyQ' 256 84 dt298 := ⟨fun _ h => by cases h; exact dq339, trivial, trivial⟩
theorem da149 : AllT TyQ' 128 84 dt149 := ⟨fun _ h => by cases h; exact dq211, da298, trivial⟩
theorem da74 : AllT TyQ' 64 20 dt74 := ⟨fun _ h => by cases h; exact dq83, da148, da149⟩
theorem da300 : AllT TyQ' 256 52 dt300 := ⟨fun _ h => by cases h; exact dq307, trivial, trivial⟩
theorem da150 : AllT TyQ' 128 52 dt150 := ⟨fun _ h => by cases h; exact dq179, da300, trivial⟩
theorem da302 : AllT TyQ' 256 116 dt302 := ⟨fun _ h => by cases h; exact dq371, trivial, trivial⟩
theorem da151 : AllT TyQ' 128 116 dt151 := ⟨fun _ h => by cases h; exact dq243, da302, trivial⟩
theorem da75 : AllT TyQ' 64 52 dt75 := ⟨fun _ h => by cases h; exact dq115, da150, da151⟩
theorem da37 : AllT TyQ' 32 20 dt37 := ⟨fun _ h => by cases h; exact dq51, da74, da75⟩
theorem da18 : AllT TyQ' 16 4 dt18 := ⟨fun _ h => by cases h; exact dq19, da36, da37⟩
theorem da304 : AllT TyQ' 256 12 dt304 := ⟨fun _ h => by cases h; exact dq267, trivial, trivial⟩
theorem da152 : AllT TyQ' 128 12 dt152 := ⟨fun _ h => by cases h; exact dq139, da304, trivial⟩
theorem da153 : AllT TyQ' 128 76 dt153 := ⟨fun _ h => by cases h; exact dq203, trivial, trivial⟩
theorem da76 : AllT TyQ' 64 12 dt76 := ⟨fun _ h => by cases h; exact dq75, da152, da153⟩
theorem da308 : AllT TyQ' 256 44 dt308 := ⟨fun _ h => by cases h; exact dq299, trivial, trivial⟩
theorem da154 : AllT TyQ' 128 44 dt154 := ⟨fun _ h => by cases h; exact dq171, da308, trivial⟩
theorem da310 : AllT TyQ' 256 108 dt310 := ⟨fun _ h => by cases h; exact dq363, trivial, trivial⟩
theorem da155 : AllT TyQ' 128 108 dt155 := ⟨fun _ h => by cases h; exact dq235, da310, trivial⟩
theorem da77 : AllT TyQ' 64 44 dt77 := ⟨fun _ h => by cases h; exact dq107, da154, da155⟩
theorem da38 : AllT TyQ' 32 12 dt38 := ⟨fun _ h => by cases h; exact dq43, da76, da77⟩
theorem da312 : AllT TyQ' 256 28 dt312 := ⟨fun _ h => by cases h; exact dq283, trivial, trivial⟩
theorem da156 : AllT TyQ' 128 28 dt156 := ⟨fun _ h => by cases h; exact dq155, da312, trivial⟩
theorem da314 : AllT TyQ' 256 92 dt314 := ⟨fun _ h => by cases h; exact dq347, trivial, trivial⟩
theorem da157 : AllT TyQ' 128 92 dt157 := ⟨fun _ h => by cases h; exact dq219, da314, trivial⟩
theorem da78 : AllT TyQ' 64 28 dt78 := ⟨fun _ h => by cases h; exact dq91, da156, da157⟩
theorem da316 : AllT TyQ' 256 60 dt316 := ⟨fun _ h => by cases h; exact dq315, trivial, trivial⟩
theorem da158 : AllT TyQ' 128 60 dt158 := ⟨fun _ h => by cases h; exact dq187, da316, trivial⟩
theorem da318 : AllT TyQ' 256 124 dt318 := ⟨fun _ h => by cases h; exact dq379, trivial, trivial⟩
theorem da159 : AllT TyQ' 128 124 dt159 := ⟨fun _ h => by cases h; exact dq251, da318, trivial⟩
theorem da79 : AllT TyQ' 64 60 dt79 := ⟨(fun _ h => nomatch h), da158, da159⟩
theorem da39 : AllT TyQ' 32 28 dt39 := ⟨fun _ h => by cases h; exact dq59, da78, da79⟩
theorem da19 : AllT TyQ' 16 12 dt19 := ⟨fun _ h => by cases h; exact dq27, da38, da39⟩
theorem da9 : AllT TyQ' 8 4 dt9 := ⟨fun _ h => by cases h; exact dq11, da18, da19⟩
theorem da4 : AllT TyQ' 4 0 dt4 := ⟨fun _ h => by cases h; exact dq3, da8, da9⟩
theorem da320 : AllT TyQ' 256 2 dt320 := ⟨fun _ h => by cases h; exact dq257, trivial, trivial⟩
theorem da321 : AllT TyQ' 256 130 dt321 := ⟨fun _ h => by cases h; exact dq385, trivial, trivial⟩
theorem da160 : AllT TyQ' 128 2 dt160 := ⟨fun _ h => by cases h; exact dq129, da320, da321⟩
theorem da322 : AllT TyQ' 256 66 dt322 := ⟨fun _ h => by cases h; exact dq321, trivial, trivial⟩
theorem da161 : AllT TyQ' 128 66 dt161 := ⟨(fun _ h => nomatch h), da322, trivial⟩
theorem da80 : AllT TyQ' 64 2 dt80 := ⟨fun _ h => by cases h; exact dq65, da160, da161⟩
theorem da324 : AllT TyQ' 256 34 dt324 := ⟨fun _ h => by cases h; exact dq289, trivial, trivial⟩
theorem da162 : AllT TyQ' 128 34 dt162 := ⟨fun _ h => by cases h; exact dq161, da324, trivial⟩
theorem da326 : AllT TyQ' 256 98 dt326 := ⟨fun _ h => by cases h; exact dq353, trivial, trivial⟩
theorem da163 : AllT TyQ' 128 98 dt163 := ⟨fun _ h => by cases h; exact dq225, da326, trivial⟩
theorem da81 : AllT TyQ' 64 34 dt81 := ⟨fun _ h => by cases h; exact dq97, da162, da163⟩
theorem da40 : AllT TyQ' 32 2 dt40 := ⟨fun _ h => by cases h; exact dq33, da80, da81⟩
theorem da328 : AllT TyQ' 256 18 dt328 := ⟨fun _ h => by cases h; exact dq273, trivial, trivial⟩
theorem da164 : AllT TyQ' 128 18 dt164 := ⟨fun _ h => by cases h; exact dq145, da328, trivial⟩
theorem da330 : AllT TyQ' 256 82 dt330 := ⟨fun _ h => by cases h; exact dq337, trivial, trivial⟩
theorem da165 : AllT TyQ' 128 82 dt165 := ⟨fun _ h => by cases h; exact dq209, da330, trivial⟩
theorem da82 : AllT TyQ' 64 18 dt82 := ⟨fun _ h => by cases h; exact dq81, da164, da165⟩
theorem da332 : AllT TyQ' 256 50 dt332 := ⟨fun _ h => by cases h; exact dq305, trivial, trivial⟩
theorem da166 : AllT TyQ' 128 50 dt166 := ⟨fun _ h => by cases h; exact dq177, da332, trivial⟩
theorem da334 : AllT TyQ' 256 114 dt334 := ⟨fun _ h => by cases h; exact dq369, trivial, trivial⟩
theorem da167 : AllT TyQ' 128 114 dt167 := ⟨fun _ h => by cases h; exact dq241, da334, trivial⟩
theorem da83 : AllT TyQ' 64 50 dt83 := ⟨fun _ h => by cases h; exact dq113, da166, da167⟩
theorem da41 : AllT TyQ' 32 18 dt41 := ⟨fun _ h => by cases h; exact dq49, da82, da83⟩
theorem da20 : AllT TyQ' 16 2 dt20 := ⟨fun _ h => by cases h; exact dq17, da40, da41⟩
theorem da336 : AllT TyQ' 256 10 dt336 := ⟨fun _ h => by cases h; exact dq265, trivial, trivial⟩
theorem da168 : AllT TyQ' 128 10 dt168 := ⟨fun _ h => by cases h; exact dq137, da336, trivial⟩
theorem da338 : AllT TyQ' 256 74 dt338 := ⟨fun _ h => by cases h; exact dq329, trivial, trivial⟩
theorem da169 : AllT TyQ' 128 74 dt169 := ⟨fun _ h => by cases h; exact dq201, da338, trivial⟩
theorem da84 : AllT TyQ' 64 10 dt84 := ⟨fun _ h => by cases h; exact dq73, da168, da169⟩
theorem da340 : AllT TyQ' 256 42 dt340 := ⟨fun _ h => by cases h; exact dq297, trivial, trivial⟩
theorem da170 : AllT TyQ' 128 42 dt170 := ⟨(fun _ h => nomatch h), da340, trivial⟩
theorem da342 : AllT TyQ' 256 106 dt342 := ⟨fun _ h => by cases h; exact dq361, trivial, trivial⟩
theorem da171 : AllT TyQ' 128 106 dt171 := ⟨fun _ h => by cases h; exact dq233, da342, trivial⟩
theorem da85 : AllT TyQ' 64 42 dt85 := ⟨fun _ h => by cases h; exact dq105, da170, da171⟩
theorem da42 : AllT TyQ' 32 10 dt42 := ⟨fun _ h => by cases h; exact dq41, da84, da85⟩
theorem da344 : AllT TyQ' 256 26 dt344 := ⟨fun _ h => by cases h; exact dq281, trivial, trivial⟩
theorem da172 : AllT TyQ' 128 26 dt172 := ⟨fun _ h => by cases h; exact dq153, da344, trivial⟩
theorem da346 : AllT TyQ' 256 90 dt346 := ⟨fun _ h => by cases h; exact dq345, trivial, trivial⟩
theorem da173 : AllT TyQ' 128 90 dt173 := ⟨fun _ h => by cases h; exact dq217, da346, trivial⟩
theorem da86 : AllT TyQ' 64 26 dt86 := ⟨fun _ h => by cases h; exact dq89, da172, da173⟩
theorem da348 : AllT TyQ' 256 58 dt348 := ⟨fun _ h => by cases h; exact dq313, trivial, trivial⟩
theorem da174 : AllT TyQ' 128 58 dt174 := ⟨fun _ h => by cases h; exact dq185, da348, trivial⟩
theorem da350 : AllT TyQ' 256 122 dt350 := ⟨fun _ h => by cases h; exact dq377, trivial, trivial⟩
theorem da175 : AllT TyQ' 128 122 dt175 := ⟨fun _ h => by cases h; exact dq249, da350, trivial⟩
theorem da87 : AllT TyQ' 64 58 dt87 := ⟨fun _ h => by cases h; exact dq121, da174, da175⟩
theorem da43 : AllT TyQ' 32 26 dt43 := ⟨fun _ h => by cases h; exact dq57, da86, da87⟩
theorem da21 : AllT TyQ' 16 10 dt21 := ⟨(fun _ h => nomatch h), da42, da43⟩
theorem da10 : AllT TyQ' 8 2 dt10 := ⟨fun _ h => by cases h; exact dq9, da20, da21⟩
theorem da352 : AllT TyQ' 256 6 dt352 := ⟨fun _ h => by cases h; exact dq261, trivial, trivial⟩
theorem da176 : AllT TyQ' 128 6 dt176 := ⟨fun _ h => by cases h; exact dq133, da352, trivial⟩
theorem da177 : AllT TyQ' 128 70 dt177 := ⟨fun _ h => by cases h; exact dq197, trivial, trivial⟩
theorem da88 : AllT TyQ' 64 6 dt88 := ⟨fun _ h => by cases h; exact dq69, da176, da177⟩
theorem da356 : AllT TyQ' 256 38 dt356 := ⟨fun _ h => by cases h; exact dq293, trivial, trivial⟩
theorem da178 : AllT TyQ' 128 38 dt178 := ⟨fun _ h => by cases h; exact dq165, da356, trivial⟩
theorem da358 : AllT TyQ' 256 102 dt358 := ⟨fun _ h => by cases h; exact dq357, trivial, trivial⟩
theorem da179 : AllT TyQ' 128 102 dt179 := ⟨fun _ h => by cases h; exact dq229, da358, trivial⟩
theorem da89 : AllT TyQ' 64 38 dt89 := ⟨fun _ h => by cases h; exact dq101, da178, da179⟩
theorem da44 : AllT TyQ' 32 6 dt44 := ⟨(fun _ h => nomatch h), da88, da89⟩
theorem da360 : AllT TyQ' 256 22 dt360 := ⟨fun _ h => by cases h; exact dq277, trivial, trivial⟩
theorem da180 : AllT TyQ' 128 22 dt180 := ⟨fun _ h => by cases h; exact dq149, da360, trivial⟩
theorem da362 : AllT TyQ' 256 86 dt362 := ⟨fun _ h => by cases h; exact dq341, trivial, trivial⟩
theorem da181 : AllT TyQ' 128 86 dt181 := ⟨fun _ h => by cases h; exact dq213, da362, trivial⟩
theorem da90 : AllT TyQ' 64 22 dt90 := ⟨fun _ h => by cases h; exact dq85, da180, da181⟩
theorem da364 : AllT TyQ' 256 54 dt364 := ⟨fun _ h => by cases h; exact dq309, trivial, trivial⟩
theorem da182 : AllT TyQ' 128 54 dt182 := ⟨fun _ h => by cases h; exact dq181, da364, trivial⟩
theorem da366 : AllT TyQ' 256 118 dt366 := ⟨fun _ h => by cases h; exact dq373, trivial, trivial⟩
theorem da183 : AllT TyQ' 128 118 dt183 := ⟨fun _ h => by cases h; exact dq245, da366, trivial⟩
theorem da91 : AllT TyQ' 64 54 dt91 := ⟨fun _ h => by cases h; exact dq117, da182, da183⟩
theorem da45 : AllT TyQ' 32 22 dt45 := ⟨fun _ h => by cases h; exact dq53, da90, da91⟩
theorem da22 : AllT TyQ' 16 6 dt22 := ⟨fun _ h => by cases h; exact dq21, da44, da45⟩
theorem da184 : AllT TyQ' 128 14 dt184 := ⟨fun _ h => by cases h; exact dq141, trivial, trivial⟩
theorem da370 : AllT TyQ' 256 78 dt370 := ⟨fun _ h => by cases h; exact dq333, trivial, trivial⟩
theorem da185 : AllT TyQ' 128 78 dt185 := ⟨fun _ h => by cases h; exact dq205, da370, trivial⟩
theorem da92 : AllT TyQ' 64 14 dt92 := ⟨fun _ h => by cases h; exact dq77, da184, da185⟩
theorem da372 : AllT TyQ' 256 46 dt372 := ⟨fun _ h => by cases h; exact dq301, trivial, trivial⟩
theorem da186 : AllT TyQ' 128 46 dt186 := ⟨fun _ h => by cases h; exact dq173, da372, trivial⟩
theorem da374 : AllT TyQ' 256 110 dt374 := ⟨fun _ h => by cases h; exact dq365, trivial, trivial⟩
theorem da187 : AllT TyQ' 128 110 dt187 := ⟨fun _ h => by cases h; exact dq237, da374, trivial⟩
theorem da93 : AllT TyQ' 64 46 dt93 := ⟨fun _ h => by cases h; exact dq109, da186, da187⟩
theorem da46 : AllT TyQ' 32 14 dt46 := ⟨fun _ h => by cases h; exact dq45, da92, da93⟩
theorem da376 : AllT TyQ' 256 30 dt376 := ⟨fun _ h => by cases h; exact dq285, trivial, trivial⟩
theorem da188 : AllT TyQ' 128 30 dt188 := ⟨fun _ h => by cases h; exact dq157, da376, trivial⟩
theorem da378 : AllT TyQ' 256 94 dt378 := ⟨fun _ h => by cases h; exact dq349, trivial, trivial⟩
theorem da189 : AllT TyQ' 128 94 dt189 := ⟨fun _ h => by cases h; exact dq221, da378, trivial⟩
theorem da94 : AllT TyQ' 64 30 dt94 := ⟨fun _ h => by cases h; exact dq93, da188, da189⟩
theorem da380 : AllT TyQ' 256 62 dt380 := ⟨fun _ h => by cases h; exact dq317, trivial, trivial⟩
theorem da190 : AllT TyQ' 128 62 dt190 := ⟨(fun _ h => nomatch h), da380, trivial⟩
theorem da382 : AllT TyQ' 256 126 dt382 := ⟨fun _ h => by cases h; exact dq381, trivial, trivial⟩
theorem da191 : AllT TyQ' 128 126 dt191 := ⟨fun _ h => by cases h; exact dq253, da382, trivial⟩
theorem da95 : AllT TyQ' 64 62 dt95 := ⟨fun _ h => by cases h; exact dq125, da190, da191⟩
theorem da47 : AllT TyQ' 32 30 dt47 := ⟨fun _ h => by cases h; exact dq61, da94, da95⟩
theorem da23 : AllT TyQ' 16 14 dt23 := ⟨fun _ h => by cases h; exact dq29, da46, da47⟩
theorem da11 : AllT TyQ' 8 6 dt11 := ⟨fun _ h => by cases h; exact dq13, da22, da23⟩
theorem da5 : AllT TyQ' 4 2 dt5 := ⟨fun _ h => by cases h; exact dq5, da10, da11⟩
theorem da2 : AllT TyQ' 2 0 dt2 := ⟨fun _ h => by cases h; exact dq1, da4, da5⟩
theorem da384 : AllT TyQ' 256 1 dt384 := ⟨fun _ h => by cases h; exact dq256, trivial, trivial⟩
theorem da385 : AllT TyQ' 256 129 dt385 := ⟨fun _ h => by cases h; exact dq384, trivial, trivial⟩
theorem da192 : AllT TyQ' 128 1 dt192 := ⟨fun _ h => by cases h; exact dq128, da384, da385⟩
theorem da386 : AllT TyQ' 256 65 dt386 := ⟨fun _ h => by cases h; exact dq320, trivial, trivial⟩
theorem da193 : AllT TyQ' 128 65 dt193 := ⟨fun _ h => by cases h; exact dq192, da386, trivial⟩
theorem da96 : AllT TyQ' 64 1 dt96 := ⟨fun _ h => by cases h; exact dq64, da192, da193⟩
theorem da388 : AllT TyQ' 256 33 dt388 := ⟨fun _ h => by cases h; exact dq288, trivial, trivial⟩
theorem da194 : AllT TyQ' 128 33 dt194 := ⟨fun _ h => by cases h; exact dq160, da388, trivial⟩
theorem da390 : AllT TyQ' 256 97 dt390 := ⟨fun _ h => by cases h; exact dq352, trivial, trivial⟩
theorem da195 : AllT TyQ' 128 97 dt195 := ⟨fun _ h => by cases h; exact dq224, da390, trivial⟩
theorem da97 : AllT TyQ' 64 33 dt97 := ⟨fun _ h => by cases h; exact dq96, da194, da195⟩
theorem da48 : AllT TyQ' 32 1 dt48 := ⟨fun _ h => by cases h; exact dq32, da96, da97⟩
theorem da392 : AllT TyQ' 256 17 dt392 := ⟨fun _ h => by cases h; exact dq272, trivial, trivial⟩
theorem da196 : AllT TyQ' 128 17 dt196 := ⟨fun _ h => by cases h; exact dq144, da392, trivial⟩
theorem da394 : AllT TyQ' 256 81 dt394 := ⟨fun _ h => by cases h; exact dq336, trivial, trivial⟩
theorem da197 : AllT TyQ' 128 81 dt197 := ⟨(fun _ h => nomatch h), da394, trivial⟩
theorem da98 : AllT TyQ' 64 17 dt98 := ⟨fun _ h => by cases h; exact dq80, da196, da197⟩
theorem da396 : AllT TyQ' 256 49 dt396 := ⟨fun _ h => by cases h; exact dq304, trivial, trivial⟩
theorem da198 : AllT TyQ' 128 49 dt198 := ⟨fun _ h => by cases h; exact dq176, da396, trivial⟩
theorem da398 : AllT TyQ' 256 113 dt398 := ⟨fun _ h => by cases h; exact dq368, trivial, trivial⟩
theorem da199 : AllT TyQ' 128 113 dt199 := ⟨fun _ h => by cases h; exact dq240, da398, trivial⟩
theorem da99 : AllT TyQ' 64 49 dt99 := ⟨fun _ h => by cases h; exact dq112, da198, da199⟩
theorem da49 : AllT TyQ' 32 17 dt49 := ⟨fun _ h => by cases h; exact dq48, da98, da99⟩
theorem da24 : AllT TyQ' 16 1 dt24 := ⟨fun _ h => by cases h; exact dq16, da48, da49⟩
theorem da400 : AllT TyQ' 256 9 dt400 := ⟨fun _ h => by cases h; exact dq264, trivial, trivial⟩
theorem da200 : AllT TyQ' 128 9 dt200 := ⟨fun _ h => by cases h; exact dq136, da400, trivial⟩
theorem da402 : AllT TyQ' 256 73 dt402 := ⟨fun _ h => by cases h; exact dq328, trivial, trivial⟩
theorem da201 : AllT TyQ' 128 73 dt201 := ⟨(fun _ h => nomatch h), da402, trivial⟩
theorem da100 : AllT TyQ' 64 9 dt100 := ⟨fun _ h => by cases h; exact dq72, da200, da201⟩
theorem da404 : AllT TyQ' 256 41 dt404 := ⟨fun _ h => by cases h; exact dq296, trivial, trivial⟩
theorem da202 : AllT TyQ' 128 41 dt202 := ⟨fun _ h => by cases h; exact dq168, da404, trivial⟩
theorem da406 : AllT TyQ' 256 105 dt406 := ⟨fun _ h => by cases h; exact dq360, trivial, trivial⟩
theorem da203 : AllT TyQ' 128 105 dt203 := ⟨fun _ h => by cases h; exact dq232, da406, trivial⟩
theorem da101 : AllT TyQ' 64 41 dt101 := ⟨fun _ h => by cases h; exact dq104, da202, da203⟩
theorem da50 : AllT TyQ' 32 9 dt50 := ⟨fun _ h => by cases h; exact dq40, da100, da101⟩
theorem da408 : AllT TyQ' 256 25 dt408 := ⟨fun _ h => by cases h; exact dq280, trivial, trivial⟩
theorem da204 : AllT TyQ' 128 25 dt204 := ⟨fun _ h => by cases h; exact dq152, da408, trivial⟩
theorem da410 : AllT TyQ' 256 89 dt410 := ⟨fun _ h => by cases h; exact dq344, trivial, trivial⟩
theorem da205 : AllT TyQ' 128 89 dt205 := ⟨(fun _ h => nomatch h), da410, trivial⟩
theorem da102 : AllT TyQ' 64 25 dt102 := ⟨(fun _ h => nomatch h), da204, da205⟩
theorem da412 : AllT TyQ' 256 57 dt412 := ⟨fun _ h => by cases h; exact dq312, trivial, trivial⟩
theorem da206 : AllT TyQ' 128 57 dt206 := ⟨(fun _ h => nomatch h), da412, trivial⟩
theorem da414 : AllT TyQ' 256 121 dt414 := ⟨fun _ h => by cases h; exact dq376, trivial, trivial⟩
theorem da207 : AllT TyQ' 128 121 dt207 := ⟨fun _ h => by cases h; exact dq248, da414, trivial⟩
theorem da103 : AllT TyQ' 64 57 dt103 := ⟨fun _ h => by cases h; exact dq120, da206, da207⟩
theorem da51 : AllT TyQ' 32 25 dt51 := ⟨fun _ h => by cases h; exact dq56, da102, da103⟩
theorem da25 : AllT TyQ' 16 9 dt25 := ⟨fun _ h => by cases h; exact dq24, da50, da51⟩
theorem da12 : AllT TyQ' 8 1 dt12 := ⟨fun _ h => by cases h; exact dq8, da24, da25⟩
theorem da416 : AllT TyQ' 256 5 dt416 := ⟨fun _ h => by cases h; exact dq260, trivial, trivial⟩
theorem da417 : AllT TyQ' 256 133 dt417 := ⟨fun _ h => by cases h; exact dq388, trivial, trivial⟩
theorem da208 : AllT TyQ' 128 5 dt208 := ⟨fun _ h => by cases h; exact dq132, da416, da417⟩
theorem da418 : AllT TyQ' 256 69 dt418 := ⟨fun _ h => by cases h; exact dq324, trivial, trivial⟩
theorem da209 : AllT TyQ' 128 69 dt209 := ⟨fun _ h => by cases h; exact dq196, da418, trivial⟩
theorem da104 : AllT TyQ' 64 5 dt104 := ⟨fun _ h => by cases h; exact dq68, da208, da209⟩
theorem da420 : AllT TyQ' 256 37 dt420 := ⟨fun _ h => by cases h; exact dq292, trivial, trivial⟩
theorem da210 : AllT TyQ' 128 37 dt210 := ⟨fun _ h => by cases h; exact dq164, da420, trivial⟩
theorem da422 : AllT TyQ' 256 101 dt422 := ⟨fun _ h => by cases h; exact dq356, trivial, trivial⟩
theorem da211 : AllT TyQ' 128 101 dt211 := ⟨fun _ h => by cases h; exact dq228, da422, trivial⟩
theorem da105 : AllT TyQ' 64 37 dt105 := ⟨fun _ h => by cases h; exact dq100, da210, da211⟩
theorem da52 : AllT TyQ' 32 5 dt52 := ⟨fun _ h => by cases h; exact dq36, da104, da105⟩
theorem da424 : AllT TyQ' 256 21 dt424 := ⟨fun _ h => by cases h; exact dq276, trivial, trivial⟩
theorem da212 : AllT TyQ' 128 21 dt212 := ⟨fun _ h => by cases h; exact dq148, da424, trivial⟩
theorem da426 : AllT TyQ' 256 85 dt426 := ⟨fun _ h => by cases h; exact dq340, trivial, trivial⟩
theorem da213 : AllT TyQ' 128 85 dt213 := ⟨fun _ h => by cases h; exact dq212, da426, trivial⟩
theorem da106 : AllT TyQ' 64 21 dt106 := ⟨fun _ h => by cases h; exact dq84, da212, da213⟩
theorem da428 : AllT TyQ' 256 53 dt428 := ⟨fun _ h => by cases h; exact dq308, trivial, trivial⟩
theorem da214 : AllT TyQ' 128 53 dt214 := ⟨fun _ h => by cases h; exact dq180, da428, trivial⟩
theorem da430 : AllT TyQ' 256 117 dt430 := ⟨fun _ h => by cases h; exact dq372, trivial, trivial⟩
theorem da215 : AllT TyQ' 128 117 dt215 := ⟨fun _ h => by cases h; exact dq244, da430, trivial⟩
theorem da107 : AllT TyQ' 64 53 dt107 := ⟨(fun _ h => nomatch h), da214, da215⟩
theorem da53 : AllT TyQ' 32 21 dt53 := ⟨fun _ h => by cases h; exact dq52, da106, da107⟩
theorem da26 : AllT TyQ' 16 5 dt26 := ⟨fun _ h => by cases h; exact dq20, da52, da53⟩
theorem da432 : AllT TyQ' 256 13 dt432 := ⟨fun _ h => by cases h; exact dq268, trivial, trivial⟩
theorem da216 : AllT TyQ' 128 13 dt216 := ⟨(fun _ h => nomatch h), da432, trivial⟩
theorem da434 : AllT TyQ' 256 77 dt434 := ⟨fun _ h => by cases h; exact dq332, trivial, trivial⟩
theorem da217 : AllT TyQ' 128 77 dt217 := ⟨fun _ h => by cases h; exact dq204, da434, trivial⟩
theorem da108 : AllT TyQ' 64 13 dt108 := ⟨(fun _ h => nomatch h), da216, da217⟩
theorem da436 : AllT TyQ' 256 45 dt436 := ⟨fun _ h => by cases h; exact dq300, trivial, trivial⟩
theorem da218 : AllT TyQ' 128 45 dt218 := ⟨fun _ h => by cases h; exact dq172, da436, trivial⟩
theorem da438 : AllT TyQ' 256 109 dt438 := ⟨fun _ h => by cases h; exact dq364, trivial, trivial⟩
theorem da219 : AllT TyQ' 128 109 dt219 := ⟨fun _ h => by cases h; exact dq236, da438, trivial⟩
theorem da109 : AllT TyQ' 64 45 dt109 := ⟨fun _ h => by cases h; exact dq108, da218, da219⟩
theorem da54 : AllT TyQ' 32 13 dt54 := ⟨(fun _ h => nomatch h), da108, da109⟩
theorem da440 : AllT TyQ' 256 29 dt440 := ⟨fun _ h => by cases h; exact dq284, trivial, trivial⟩
theorem da220 : AllT TyQ' 128 29 dt220 := ⟨fun _ h => by cases h; exact dq156, da440, trivial⟩
theorem da442 : AllT TyQ' 256 93 dt442 := ⟨fun _ h => by cases h; exact dq348, trivial, trivial⟩
theorem da221 : AllT TyQ' 128 93 dt221 := ⟨fun _ h => by cases h; exact dq220, da442, trivial⟩
theorem da110 : AllT TyQ' 64 29 dt110 := ⟨fun _ h => by cases h; exact dq92, da220, da221⟩
theorem da444 : AllT TyQ' 256 61 dt444 := ⟨fun _ h => by cases h; exact dq316, trivial, trivial⟩
theorem da222 : AllT TyQ' 128 61 dt222 := ⟨fun _ h => by cases h; exact dq188, da444, trivial⟩
theorem da446 : AllT TyQ' 256 125 dt446 := ⟨fun _ h => by cases h; exact dq380, trivial, trivial⟩
theorem da223 : AllT TyQ' 128 125 dt223 := ⟨(fun _ h => nomatch h), da446, trivial⟩
theorem da111 : AllT TyQ' 64 61 dt111 := ⟨fun _ h => by cases h; exact dq124, da222, da223⟩
theorem da55 : AllT TyQ' 32 29 dt55 := ⟨fun _ h => by cases h; exact dq60, da110, da111⟩
theorem da27 : AllT TyQ' 16 13 dt27 := ⟨fun _ h => by cases h; exact dq28, da54, da55⟩
theorem da13 : AllT TyQ' 8 5 dt13 := ⟨fun _ h => by cases h; exact dq12, da26, da27⟩
theorem da6 : AllT TyQ' 4 1 dt6 := ⟨fun _ h => by cases h; exact dq4, da12, da13⟩
theorem da448 : AllT TyQ' 256 3 dt448 := ⟨fun _ h => by cases h; exact dq258, trivial, trivial⟩
theorem da449 : AllT TyQ' 256 131 dt449 := ⟨fun _ h => by cases h; exact dq386, trivial, trivial⟩
theorem da224 : AllT TyQ' 128 3 dt224 := ⟨fun _ h => by cases h; exact dq130, da448, da449⟩
theorem da450 : AllT TyQ' 256 67 dt450 := ⟨fun _ h => by cases h; exact dq322, trivial, trivial⟩
theorem da225 : AllT TyQ' 128 67 dt225 := ⟨fun _ h => by cases h; exact dq194, da450, trivial⟩
theorem da112 : AllT TyQ' 64 3 dt112 := ⟨fun _ h => by cases h; exact dq66, da224, da225⟩
theorem da452 : AllT TyQ' 256 35 dt452 := ⟨fun _ h => by cases h; exact dq290, trivial, trivial⟩
theorem da226 : AllT TyQ' 128 35 dt226 := ⟨fun _ h => by cases h; exact dq162, da452, trivial⟩
theorem da454 : AllT TyQ' 256 99 dt454 := ⟨fun _ h => by cases h; exact dq354, trivial, trivial⟩
theorem da227 : AllT TyQ' 128 99 dt227 := ⟨fun _ h => by cases h; exact dq226, da454, trivial⟩
theorem da113 : AllT TyQ' 64 35 dt113 := ⟨fun _ h => by cases h; exact dq98, da226, da227⟩
theorem da56 : AllT TyQ' 32 3 dt56 := ⟨fun _ h => by cases h; exact dq34, da112, da113⟩
theorem da456 : AllT TyQ' 256 19 dt456 := ⟨fun _ h => by cases h; exact dq274, trivial, trivial⟩
theorem da228 : AllT TyQ' 128 19 dt228 := ⟨fun _ h => by cases h; exact dq146, da456, trivial⟩
theorem da229 : AllT TyQ' 128 83 dt229 := ⟨fun _ h => by cases h; exact dq210, trivial, trivial⟩
theorem da114 : AllT TyQ' 64 19 dt114 := ⟨fun _ h => by cases h; exact dq82, da228, da229⟩
theorem da460 : AllT TyQ' 256 51 dt460 := ⟨fun _ h => by cases h; exact dq306, trivial, trivial⟩
theorem da230 : AllT TyQ' 128 51 dt230 := ⟨fun _ h => by cases h; exact dq178, da460, trivial⟩
theorem da462 : AllT TyQ' 256 115 dt462 := ⟨fun _ h => by cases h; exact dq370, trivial, trivial⟩
theorem da231 : AllT TyQ' 128 115 dt231 := ⟨fun _ h => by cases h; exact dq242, da462, trivial⟩
theorem da115 : AllT TyQ' 64 51 dt115 := ⟨fun _ h => by cases h; exact dq114, da230, da231⟩
theorem da57 : AllT TyQ' 32 19 dt57 := ⟨fun _ h => by cases h; exact dq50, da114, da115⟩
theorem da28 : AllT TyQ' 16 3 dt28 := ⟨fun _ h => by cases h; exact dq18, da56, da57⟩
theorem da464 : AllT TyQ' 256 11 dt464 := ⟨fun _ h => by cases h; exact dq266, trivial, trivial⟩
theorem da232 : AllT TyQ' 128 11 dt232 := ⟨fun _ h => by cases h; exact dq138, da464, trivial⟩
theorem da466 : AllT TyQ' 256 75 dt466 := ⟨fun _ h => by cases h; exact dq330, trivial, trivial⟩
theorem da233 : AllT TyQ' 128 75 dt233 := ⟨(fun _ h => nomatch h), da466, trivial⟩
theorem da116 : AllT TyQ' 64 11 dt116 := ⟨fun _ h => by cases h; exact dq74, da232, da233⟩
theorem da468 : AllT TyQ' 256 43 dt468 := ⟨fun _ h => by cases h; exact dq298, trivial, trivial⟩
theorem da234 : AllT TyQ' 128 43 dt234 := ⟨fun _ h => by cases h; exact dq170, da468, trivial⟩
theorem da235 : AllT TyQ' 128 107 dt235 := ⟨fun _ h => by cases h; exact dq234, trivial, trivial⟩
theorem da117 : AllT TyQ' 64 43 dt117 := ⟨fun _ h => by cases h; exact dq106, da234, da235⟩
theorem da58 : AllT TyQ' 32 11 dt58 := ⟨fun _ h => by cases h; exact dq42, da116, da117⟩
theorem da472 : AllT TyQ' 256 27 dt472 := ⟨fun _ h => by cases h; exact dq282, trivial, trivial⟩
theorem da236 : AllT TyQ' 128 27 dt236 := ⟨(fun _ h => nomatch h), da472, trivial⟩
theorem da474 : AllT TyQ' 256 91 dt474 := ⟨fun _ h => by cases h; exact dq346, trivial, trivial⟩
theorem da237 : AllT TyQ' 128 91 dt237 := ⟨fun _ h => by cases h; exact dq218, da474, trivial⟩
theorem da118 : AllT TyQ' 64 27 dt118 := ⟨(fun _ h => nomatch h), da236, da237⟩
theorem da476 : AllT TyQ' 256 59 dt476 := ⟨fun _ h => by cases h; exact dq314, trivial, trivial⟩
theorem da238 : AllT TyQ' 128 59 dt238 := ⟨fun _ h => by cases h; exact dq186, da476, trivial⟩
theorem da478 : AllT TyQ' 256 123 dt478 := ⟨fun _ h => by cases h; exact dq378, trivial, trivial⟩
theorem da239 : AllT TyQ' 128 123 dt239 := ⟨fun _ h => by cases h; exact dq250, da478, trivial⟩
theorem da119 : AllT TyQ' 64 59 dt119 := ⟨fun _ h => by cases h; exact dq122, da238, da239⟩
theorem da59 : AllT TyQ' 32 27 dt59 := ⟨fun _ h => by cases h; exact dq58, da118, da119⟩
theorem da29 : AllT TyQ' 16 11 dt29 := ⟨fun _ h => by cases h; exact dq26, da58, da59⟩
theorem da14 : AllT TyQ' 8 3 dt14 := ⟨fun _ h => by cases h; exact dq10, da28, da29⟩
theorem da240 : AllT TyQ' 128 7 dt240 := ⟨fun _ h => by cases h; exact dq134, trivial, trivial⟩
theorem da241 : AllT TyQ' 128 71 dt241 := ⟨fun _ h => by cases h; exact dq198, trivial, trivial⟩
theorem da120 : AllT TyQ' 64 7 dt120 := ⟨fun _ h => by cases h; exact dq70, da240, da241⟩
theorem da484 : AllT TyQ' 256 39 dt484 := ⟨fun _ h => by cases h; exact dq294, trivial, trivial⟩
theorem da242 : AllT TyQ' 128 39 dt242 := ⟨fun _ h => by cases h; exact dq166, da484, trivial⟩
theorem da486 : AllT TyQ' 256 103 dt486 := ⟨fun _ h => by cases h; exact dq358, trivial, trivial⟩
theorem da243 : AllT TyQ' 128 103 dt243 := ⟨fun _ h => by cases h; exact dq230, da486, trivial⟩
theorem da121 : AllT TyQ' 64 39 dt121 := ⟨fun _ h => by cases h; exact dq102, da242, da243⟩
theorem da60 : AllT TyQ' 32 7 dt60 := ⟨fun _ h => by cases h; exact dq38, da120, da121⟩
theorem da488 : AllT TyQ' 256 23 dt488 := ⟨fun _ h => by cases h; exact dq278, trivial, trivial⟩
theorem da244 : AllT TyQ' 128 23 dt244 := ⟨fun _ h => by cases h; exact dq150, da488, trivial⟩
theorem da490 : AllT TyQ' 256 87 dt490 := ⟨fun _ h => by cases h; exact dq342, trivial, trivial⟩
theorem da245 : AllT TyQ' 128 87 dt245 := ⟨fun _ h => by cases h; exact dq214, da490, trivial⟩
theorem da122 : AllT TyQ' 64 23 dt122 := ⟨fun _ h => by cases h; exact dq86, da244, da245⟩
theorem da492 : AllT TyQ' 256 55 dt492 := ⟨fun _ h => by cases h; exact dq310, trivial, trivial⟩
theorem da246 : AllT TyQ' 128 55 dt246 := ⟨fun _ h => by cases h; exact dq182, da492, trivial⟩
theorem da494 : AllT TyQ' 256 119 dt494 := ⟨fun _ h => by cases h; exact dq374, trivial, trivial⟩
theorem da247 : AllT TyQ' 128 119 dt247 := ⟨fun _ h => by cases h; exact dq246, da494, trivial⟩
theorem da123 : AllT TyQ' 64 55 dt123 := ⟨fun _ h => by cases h; exact dq118, da246, da247⟩
theorem da61 : AllT TyQ' 32 23 dt61 := ⟨(fun _ h => nomatch h), da122, da123⟩
theorem da30 : AllT TyQ' 16 7 dt30 := ⟨fun _ h => by cases h; exact dq22, da60, da61⟩
theorem da496 : AllT TyQ' 256 15 dt496 := ⟨fun _ h => by cases h; exact dq270, trivial, trivial⟩
theorem da248 : AllT TyQ' 128 15 dt248 := ⟨fun _ h => by cases h; exact dq142, da496, trivial⟩
theorem da498 : AllT TyQ' 256 79 dt498 := ⟨fun _ h => by cases h; exact dq334, trivial, trivial⟩
theorem da249 : AllT TyQ' 128 79 dt249 := ⟨fun _ h => by cases h; exact dq206, da498, trivial⟩
theorem da124 : AllT TyQ' 64 15 dt124 := ⟨fun _ h => by cases h; exact dq78, da248, da249⟩
theorem da500 : AllT TyQ' 256 47 dt500 := ⟨fun _ h => by cases h; exact dq302, trivial, trivial⟩
theorem da250 : AllT TyQ' 128 47 dt250 := ⟨fun _ h => by cases h; exact dq174, da500, trivial⟩
theorem da502 : AllT TyQ' 256 111 dt502 := ⟨fun _ h => by cases h; exact dq366, trivial, trivial⟩
theorem da251 : AllT TyQ' 128 111 dt251 := ⟨fun _ h => by cases h; exact dq238, da502, trivial⟩
theorem da125 : AllT TyQ' 64 47 dt125 := ⟨fun _ h => by cases h; exact dq110, da250, da251⟩
theorem da62 : AllT TyQ' 32 15 dt62 := ⟨fun _ h => by cases h; exact dq46, da124, da125⟩
theorem da252 : AllT TyQ' 128 31 dt252 := ⟨fun _ h => by cases h; exact dq158, trivial, trivial⟩
theorem da506 : AllT TyQ' 256 95 dt506 := ⟨fun _ h => by cases h; exact dq350, trivial, trivial⟩
theorem da253 : AllT TyQ' 128 95 dt253 := ⟨fun _ h => by cases h; exact dq222, da506, trivial⟩
theorem da126 : AllT TyQ' 64 31 dt126 := ⟨fun _ h => by cases h; exact dq94, da252, da253⟩
theorem da254 : AllT TyQ' 128 63 dt254 := ⟨fun _ h => by cases h; exact dq190, trivial, trivial⟩
theorem da510 : AllT TyQ' 256 127 dt510 := ⟨fun _ h => by cases h; exact dq382, trivial, trivial⟩
theorem da255 : AllT TyQ' 128 127 dt255 := ⟨fun _ h => by cases h; exact dq254, da510, trivial⟩
theorem da127 : AllT TyQ' 64 63 dt127 := ⟨fun _ h => by cases h; exact dq126, da254, da255⟩
theorem da63 : AllT TyQ' 32 31 dt63 := ⟨fun _ h => by cases h; exact dq62, da126, da127⟩
theorem da31 : AllT TyQ' 16 15 dt31 := ⟨fun _ h => by cases h; exact dq30, da62, da63⟩
theorem da15 : AllT TyQ' 8 7 dt15 := ⟨fun _ h => by cases h; exact dq14, da30, da31⟩
theorem da7 : AllT TyQ' 4 3 dt7 := ⟨fun _ h => by cases h; exact dq6, da14, da15⟩
theorem da3 : AllT TyQ' 2 1 dt3 := ⟨fun _ h => by cases h; exact dq2, da6, da7⟩
theorem da1 : AllT TyQ' 1 0 dt1 := ⟨(fun _ h => nomatch h), da2, da3⟩
theorem fa64 : AllT FnQ 64 0 ft64 := ⟨fun _ h => by cases h; exact ⟨Tryz.func63, Tryz.call63⟩, trivial, trivial⟩
theorem fa130 : AllT FnQ 128 32 ft130 := ⟨fun _ h => by cases h; exact ⟨Tryz.func159, Tryz.call159⟩, trivial, trivial⟩
theorem fa65 : AllT FnQ 64 32 ft65 := ⟨fun _ h => by cases h; exact ⟨Tryz.func95, Tryz.call95⟩, fa130, trivial⟩
theorem fa32 : AllT FnQ 32 0 ft32 := ⟨fun _ h => by cases h; exact ⟨Tryz.func31, Tryz.call31⟩, fa64, fa65⟩
theorem fa133 : AllT FnQ 128 80 ft133 := ⟨fun _ h => by cases h; exact ⟨Tryz.func207, Tryz.call207⟩, trivial, trivial⟩
theorem fa66 : AllT FnQ 64 16 ft66 := ⟨fun _ h => by cases h; exact ⟨Tryz.func79, Tryz.call79⟩, trivial, fa133⟩
theorem fa67 : AllT FnQ 64 48 ft67 := ⟨fun _ h => by cases h; exact ⟨Tryz.func111, Tryz.call111⟩, trivial, trivial⟩
theorem fa33 : AllT FnQ 32 16 ft33 := ⟨fun _ h => by cases h; exact ⟨Tryz.func47, Tryz.call47⟩, fa66, fa67⟩
theorem fa16 : AllT FnQ 16 0 ft16 := ⟨fun _ h => by cases h; exact ⟨Tryz.func15, Tryz.call15⟩, fa32, fa33⟩
theorem fa136 : AllT FnQ 128 8 ft136 := ⟨fun _ h => by cases h; exact ⟨Tryz.func135, Tryz.call135⟩, trivial, trivial⟩
theorem fa137 : AllT FnQ 128 72 ft137 := ⟨fun _ h => by cases h; exact ⟨Tryz.func199, Tryz.call199⟩, trivial, trivial⟩
theorem fa68 : AllT FnQ 64 8 ft68 := ⟨fun _ h => by cases h; exact ⟨Tryz.func71, Tryz.call71⟩, fa136, fa137⟩
theorem fa69 : AllT FnQ 64 40 ft69 := ⟨fun _ h => by cases h; exact ⟨Tryz.func103, Tryz.call103⟩, trivial, trivial⟩
theorem fa34 : AllT FnQ 32 8 ft34 := ⟨fun _ h => by cases h; exact ⟨Tryz.func39, Tryz.call39⟩, fa68, fa69⟩
theorem fa280 : AllT FnQ 256 24 ft280 := ⟨fun _ h => by cases h; exact ⟨Tryz.func279, Tryz.call279⟩, trivial, trivial⟩
theorem fa140 : AllT FnQ 128 24 ft140 := ⟨fun _ h => by cases h; exact ⟨Tryz.func151, Tryz.call151⟩, fa280, trivial⟩
theorem fa141 : AllT FnQ 128 88 ft141 := ⟨fun _ h => by cases h; exact ⟨Tryz.func215, Tryz.call215⟩, trivial, trivial⟩
theorem fa70 : AllT FnQ 64 24 ft70 := ⟨fun _ h => by cases h; exact ⟨Tryz.func87, Tryz.call87⟩, fa140, fa141⟩
theorem fa35 : AllT FnQ 32 24 ft35 := ⟨(fun _ h => nomatch h), fa70, trivial⟩
theorem fa17 : AllT FnQ 16 8 ft17 := ⟨fun _ h => by cases h; exact ⟨Tryz.func23, Tryz.call23⟩, fa34, fa35⟩
theorem fa8 : AllT FnQ 8 0 ft8 := ⟨fun _ h => by cases h; exact ⟨Tryz.func7, Tryz.call7⟩, fa16, fa17⟩
theorem fa146 : AllT FnQ 128 36 ft146 := ⟨fun _ h => by cases h; exact ⟨Tryz.func163, Tryz.call163⟩, trivial, trivial⟩
theorem fa73 : AllT FnQ 64 36 ft73 := ⟨fun _ h => by cases h; exact ⟨Tryz.func99, Tryz.call99⟩, fa146, trivial⟩
theorem fa36 : AllT FnQ 32 4 ft36 := ⟨(fun _ h => nomatch h), trivial, fa73⟩
theorem fa74 : AllT FnQ 64 20 ft74 := ⟨fun _ h => by cases h; exact ⟨Tryz.func83, Tryz.call83⟩, trivial, trivial⟩
theorem fa151 : AllT FnQ 128 116 ft151 := ⟨fun _ h => by cases h; exact ⟨Tryz.func243, Tryz.call243⟩, trivial, trivial⟩
theorem fa75 : AllT FnQ 64 52 ft75 := ⟨fun _ h => by cases h; exact ⟨Tryz.func115, Tryz.call115⟩, trivial, fa151⟩
theorem fa37 : AllT FnQ 32 20 ft37 := ⟨fun _ h => by cases h; exact ⟨Tryz.func51, Tryz.call51⟩, fa74, fa75⟩
theorem fa18 : AllT FnQ 16 4 ft18 := ⟨fun _ h => by cases h; exact ⟨Tryz.func19, Tryz.call19⟩, fa36, fa37⟩
theorem fa152 : AllT FnQ 128 12 ft152 := ⟨fun _ h => by cases h; exact ⟨Tryz.func139, Tryz.call139⟩, trivial, trivial⟩
theorem fa153 : AllT FnQ 128 76 ft153 := ⟨fun _ h => by cases h; exact ⟨Tryz.func203, Tryz.call203⟩, trivial, trivial⟩
theorem fa76 : AllT FnQ 64 12 ft76 := ⟨(fun _ h => nomatch h), fa152, fa153⟩
theorem fa38 : AllT FnQ 32 12 ft38 := ⟨fun _ h => by cases h; exact ⟨Tryz.func43, Tryz.call43⟩, fa76, trivial⟩
theorem fa156 : AllT FnQ 128 28 ft156 := ⟨fun _ h => by cases h; exact ⟨Tryz.func155, Tryz.call155⟩, trivial, trivial⟩
theorem fa78 : AllT FnQ 64 28 ft78 := ⟨fun _ h => by cases h; exact ⟨Tryz.func91, Tryz.call91⟩, fa156, trivial⟩
theorem fa39 : AllT FnQ 32 28 ft39 := ⟨fun _ h => by cases h; exact ⟨Tryz.func59, Tryz.call59⟩, fa78, trivial⟩
theorem fa19 : AllT FnQ 16 12 ft19 := ⟨fun _ h => by cases h; exact ⟨Tryz.func27, Tryz.call27⟩, fa38, fa39⟩
theorem fa9 : AllT FnQ 8 4 ft9 := ⟨fun _ h => by cases h; exact ⟨Tryz.func11, Tryz.call11⟩, fa18, fa19⟩
theorem fa4 : AllT FnQ 4 0 ft4 := ⟨fun _ h => by cases h; exact ⟨Tryz.func3, Tryz.call3⟩, fa8, fa9⟩
theorem fa162 : AllT FnQ 128 34 ft162 := ⟨fun _ h => by cases h; exact ⟨Tryz.func161, Tryz.call161⟩, trivial, trivial⟩
theorem fa81 : AllT FnQ 64 34 ft81 := ⟨fun _ h => by cases h; exact ⟨Tryz.func97, Tryz.call97⟩, fa162, trivial⟩
theorem fa40 : AllT FnQ 32 2 ft40 := ⟨fun _ h => by cases h; exact ⟨Tryz.func33, Tryz.call33⟩, trivial, fa81⟩
theorem fa41 : AllT FnQ 32 18 ft41 := ⟨fun _ h => by cases h; exact ⟨Tryz.func49, Tryz.call49⟩, trivial, trivial⟩
theorem fa20 : AllT FnQ 16 2 ft20 := ⟨fun _ h => by cases h; exact ⟨Tryz.func17, Tryz.call17⟩, fa40, fa41⟩
theorem fa168 : AllT FnQ 128 10 ft168 := ⟨fun _ h => by cases h; exact ⟨Tryz.func137, Tryz.call137⟩, trivial, trivial⟩
theorem fa84 : AllT FnQ 64 10 ft84 := ⟨fun _ h => by cases h; exact ⟨Tryz.func73, Tryz.call73⟩, fa168, trivial⟩
theorem fa85 : AllT FnQ 64 42 ft85 := ⟨fun _ h => by cases h; exact ⟨Tryz.func105, Tryz.call105⟩, trivial, trivial⟩
theorem fa42 : AllT FnQ 32 10 ft42 := ⟨fun _ h => by cases h; exact ⟨Tryz.func41, Tryz.call41⟩, fa84, fa85⟩
theorem fa43 : AllT FnQ 32 26 ft43 := ⟨fun _ h => by cases h; exact ⟨Tryz.func57, Tryz.call57⟩, trivial, trivial⟩
theorem fa21 : AllT FnQ 16 10 ft21 := ⟨fun _ h => by cases h; exact ⟨Tryz.func25, Tryz.call25⟩, fa42, fa43⟩
theorem fa10 : AllT FnQ 8 2 ft10 := ⟨fun _ h => by cases h; exact ⟨Tryz.func9, Tryz.call9⟩, fa20, fa21⟩
theorem fa177 : AllT FnQ 128 70 ft177 := ⟨fun _ h => by cases h; exact ⟨Tryz.func197, Tryz.call197⟩, trivial, trivial⟩
theorem fa88 : AllT FnQ 64 6 ft88 := ⟨(fun _ h => nomatch h), trivial, fa177⟩
theorem fa89 : AllT FnQ 64 38 ft89 := ⟨fun _ h => by cases h; exact ⟨Tryz.func101, Tryz.call101⟩, trivial, trivial⟩
theorem fa44 : AllT FnQ 32 6 ft44 := ⟨fun _ h => by cases h; exact ⟨Tryz.func37, Tryz.call37⟩, fa88, fa89⟩
theorem fa180 : AllT FnQ 128 22 ft180 := ⟨fun _ h => by cases h; exact ⟨Tryz.func149, Tryz.call149⟩, trivial, trivial⟩
theorem fa181 : AllT FnQ 128 86 ft181 := ⟨fun _ h => by cases h; exact ⟨Tryz.func213, Tryz.call213⟩, trivial, trivial⟩
theorem fa90 : AllT FnQ 64 22 ft90 := ⟨fun _ h => by cases h; exact ⟨Tryz.func85, Tryz.call85⟩, fa180, fa181⟩
theorem fa91 : AllT FnQ 64 54 ft91 := ⟨fun _ h => by cases h; exact ⟨Tryz.func117, Tryz.call117⟩, trivial, trivial⟩
theorem fa45 : AllT FnQ 32 22 ft45 := ⟨fun _ h => by cases h; exact ⟨Tryz.func53, Tryz.call53⟩, fa90, fa91⟩
theorem fa22 : AllT FnQ 16 6 ft22 := ⟨fun _ h => by cases h; exact ⟨Tryz.func21, Tryz.call21⟩, fa44, fa45⟩
theorem fa185 : AllT FnQ 128 78 ft185 := ⟨fun _ h => by cases h; exact ⟨Tryz.func205, Tryz.call205⟩, trivial, trivial⟩
theorem fa92 : AllT FnQ 64 14 ft92 := ⟨(fun _ h => nomatch h), trivial, fa185⟩
theorem fa93 : AllT FnQ 64 46 ft93 := ⟨fun _ h => by cases h; exact ⟨Tryz.func109, Tryz.call109⟩, trivial, trivial⟩
theorem fa46 : AllT FnQ 32 14 ft46 := ⟨fun _ h => by cases h; exact ⟨Tryz.func45, Tryz.call45⟩, fa92, fa93⟩
theorem fa94 : AllT FnQ 64 30 ft94 := ⟨fun _ h => by cases h; exact ⟨Tryz.func93, Tryz.call93⟩, trivial, trivial⟩
theorem fa47 : AllT FnQ 32 30 ft47 := ⟨fun _ h => by cases h; exact ⟨Tryz.func61, Tryz.call61⟩, fa94, trivial⟩
theorem fa23 : AllT FnQ 16 14 ft23 := ⟨fun _ h => by cases h; exact ⟨Tryz.func29, Tryz.call29⟩, fa46, fa47⟩
theorem fa11 : AllT FnQ 8 6 ft11 := ⟨fun _ h => by cases h; exact ⟨Tryz.func13, Tryz.call13⟩, fa22, fa23⟩
theorem fa5 : AllT FnQ 4 2 ft5 := ⟨fun _ h => by cases h; exact ⟨Tryz.func5, Tryz.call5⟩, fa10, fa11⟩
theorem fa2 : AllT FnQ 2 0 ft2 := ⟨(fun _ h => nomatch h), fa4, fa5⟩
theorem fa97 : AllT FnQ 64 33 ft97 := ⟨fun _ h => by cases h; exact ⟨Tryz.func96, Tryz.call96⟩, trivial, trivial⟩
theorem fa48 : AllT FnQ 32 1 ft48 := ⟨fun _ h => by cases h; exact ⟨Tryz.func32, Tryz.call32⟩, trivial, fa97⟩
theorem fa196 : AllT FnQ 128 17 ft196 := ⟨fun _ h => by cases h; exact ⟨Tryz.func144, Tryz.call144⟩, trivial, trivial⟩
theorem fa98 : AllT FnQ 64 17 ft98 := ⟨(fun _ h => nomatch h), fa196, trivial⟩
theorem fa49 : AllT FnQ 32 17 ft49 := ⟨fun _ h => by cases h; exact ⟨Tryz.func48, Tryz.call48⟩, fa98, trivial⟩
theorem fa24 : AllT FnQ 16 1 ft24 := ⟨fun _ h => by cases h; exact ⟨Tryz.func16, Tryz.call16⟩, fa48, fa49⟩
theorem fa200 : AllT FnQ 128 9 ft200 := ⟨fun _ h => by cases h; exact ⟨Tryz.func136, Tryz.call136⟩, trivial, trivial⟩
theorem fa100 : AllT FnQ 64 9 ft100 := ⟨(fun _ h => nomatch h), fa200, trivial⟩
theorem fa101 : AllT FnQ 64 41 ft101 := ⟨fun _ h => by cases h; exact ⟨Tryz.func104, Tryz.call104⟩, trivial, trivial⟩
theorem fa50 : AllT FnQ 32 9 ft50 := ⟨fun _ h => by cases h; exact ⟨Tryz.func40, Tryz.call40⟩, fa100, fa101⟩
theorem fa102 : AllT FnQ 64 25 ft102 := ⟨fun _ h => by cases h; exact ⟨Tryz.func88, Tryz.call88⟩, trivial, trivial⟩
theorem fa51 : AllT FnQ 32 25 ft51 := ⟨fun _ h => by cases h; exact ⟨Tryz.func56, Tryz.call56⟩, fa102, trivial⟩
theorem fa25 : AllT FnQ 16 9 ft25 := ⟨fun _ h => by cases h; exact ⟨Tryz.func24, Tryz.call24⟩, fa50, fa51⟩
theorem fa12 : AllT FnQ 8 1 ft12 := ⟨fun _ h => by cases h; exact ⟨Tryz.func8, Tryz.call8⟩, fa24, fa25⟩
theorem fa210 : AllT FnQ 128 37 ft210 := ⟨fun _ h => by cases h; exact ⟨Tryz.func164, Tryz.call164⟩, trivial, trivial⟩
theorem fa105 : AllT FnQ 64 37 ft105 := ⟨fun _ h => by cases h; exact ⟨Tryz.func100, Tryz.call100⟩, fa210, trivial⟩
theorem fa52 : AllT FnQ 32 5 ft52 := ⟨(fun _ h => nomatch h), trivial, fa105⟩
theorem fa212 : AllT FnQ 128 21 ft212 := ⟨fun _ h => by cases h; exact ⟨Tryz.func148, Tryz.call148⟩, trivial, trivial⟩
theorem fa213 : AllT FnQ 128 85 ft213 := ⟨fun _ h => by cases h; exact ⟨Tryz.func212, Tryz.call212⟩, trivial, trivial⟩
theorem fa106 : AllT FnQ 64 21 ft106 := ⟨(fun _ h => nomatch h), fa212, fa213⟩
theorem fa214 : AllT FnQ 128 53 ft214 := ⟨fun _ h => by cases h; exact ⟨Tryz.func180, Tryz.call180⟩, trivial, trivial⟩
theorem fa215 : AllT FnQ 128 117 ft215 := ⟨fun _ h => by cases h; exact ⟨Tryz.func244, Tryz.call244⟩, trivial, trivial⟩
theorem fa107 : AllT FnQ 64 53 ft107 := ⟨fun _ h => by cases h; exact ⟨Tryz.func116, Tryz.call116⟩, fa214, fa215⟩
theorem fa53 : AllT FnQ 32 21 ft53 := ⟨fun _ h => by cases h; exact ⟨Tryz.func52, Tryz.call52⟩, fa106, fa107⟩
theorem fa26 : AllT FnQ 16 5 ft26 := ⟨fun _ h => by cases h; exact ⟨Tryz.func20, Tryz.call20⟩, fa52, fa53⟩
theorem fa217 : AllT FnQ 128 77 ft217 := ⟨fun _ h => by cases h; exact ⟨Tryz.func204, Tryz.call204⟩, trivial, trivial⟩
theorem fa108 : AllT FnQ 64 13 ft108 := ⟨(fun _ h => nomatch h), trivial, fa217⟩
theorem fa218 : AllT FnQ 128 45 ft218 := ⟨fun _ h => by cases h; exact ⟨Tryz.func172, Tryz.call172⟩, trivial, trivial⟩
theorem fa109 : AllT FnQ 64 45 ft109 := ⟨(fun _ h => nomatch h), fa218, trivial⟩
theorem fa54 : AllT FnQ 32 13 ft54 := ⟨fun _ h => by cases h; exact ⟨Tryz.func44, Tryz.call44⟩, fa108, fa109⟩
theorem fa110 : AllT FnQ 64 29 ft110 := ⟨fun _ h => by cases h; exact ⟨Tryz.func92, Tryz.call92⟩, trivial, trivial⟩
theorem fa55 : AllT FnQ 32 29 ft55 := ⟨fun _ h => by cases h; exact ⟨Tryz.func60, Tryz.call60⟩, fa110, trivial⟩
theorem fa27 : AllT FnQ 16 13 ft27 := ⟨fun _ h => by cases h; exact ⟨Tryz.func28, Tryz.call28⟩, fa54, fa55⟩
theorem fa13 : AllT FnQ 8 5 ft13 := ⟨fun _ h => by cases h; exact ⟨Tryz.func12, Tryz.call12⟩, fa26, fa27⟩
theorem fa6 : AllT FnQ 4 1 ft6 := ⟨fun _ h => by cases h; exact ⟨Tryz.func4, Tryz.call4⟩, fa12, fa13⟩
theorem fa224 : AllT FnQ 128 3 ft224 := ⟨fun _ h => by cases h; exact ⟨Tryz.func130, Tryz.call130⟩, trivial, trivial⟩
theorem fa112 : AllT FnQ 64 3 ft112 := ⟨(fun _ h => nomatch h), fa224, trivial⟩
theorem fa226 : AllT FnQ 128 35 ft226 := ⟨fun _ h => by cases h; exact ⟨Tryz.func162, Tryz.call162⟩, trivial, trivial⟩
theorem fa113 : AllT FnQ 64 35 ft113 := ⟨fun _ h => by cases h; exact ⟨Tryz.func98, Tryz.call98⟩, fa226, trivial⟩
theorem fa56 : AllT FnQ 32 3 ft56 := ⟨fun _ h => by cases h; exact ⟨Tryz.func34, Tryz.call34⟩, fa112, fa113⟩
theorem fa230 : AllT FnQ 128 51 ft230 := ⟨fun _ h => by cases h; exact ⟨Tryz.func178, Tryz.call178⟩, trivial, trivial⟩
theorem fa115 : AllT FnQ 64 51 ft115 := ⟨(fun _ h => nomatch h), fa230, trivial⟩
theorem fa57 : AllT FnQ 32 19 ft57 := ⟨fun _ h => by cases h; exact ⟨Tryz.func50, Tryz.call50⟩, trivial, fa115⟩
theorem fa28 : AllT FnQ 16 3 ft28 := ⟨fun _ h => by cases h; exact ⟨Tryz.func18, Tryz.call18⟩, fa56, fa57⟩
theorem fa116 : AllT FnQ 64 11 ft116 := ⟨fun _ h => by cases h; exact ⟨Tryz.func74, Tryz.call74⟩, trivial, trivial⟩
theorem fa117 : AllT FnQ 64 43 ft117 := ⟨fun _ h => by cases h; exact ⟨Tryz.func106, Tryz.call106⟩, trivial, trivial⟩
theorem fa58 : AllT FnQ 32 11 ft58 := ⟨(fun _ h => nomatch h), fa116, fa117⟩
theorem fa236 : AllT FnQ 128 27 ft236 := ⟨fun _ h => by cases h; exact ⟨Tryz.func154, Tryz.call154⟩, trivial, trivial⟩
theorem fa118 : AllT FnQ 64 27 ft118 := ⟨(fun _ h => nomatch h), fa236, trivial⟩
theorem fa59 : AllT FnQ 32 27 ft59 := ⟨fun _ h => by cases h; exact ⟨Tryz.func58, Tryz.call58⟩, fa118, trivial⟩
theorem fa29 : AllT FnQ 16 11 ft29 := ⟨fun _ h => by cases h; exact ⟨Tryz.func26, Tryz.call26⟩, fa58, fa59⟩
theorem fa14 : AllT FnQ 8 3 ft14 := ⟨fun _ h => by cases h; exact ⟨Tryz.func10, Tryz.call10⟩, fa28, fa29⟩
theorem fa241 : AllT FnQ 128 71 ft241 := ⟨fun _ h => by cases h; exact ⟨Tryz.func198, Tryz.call198⟩, trivial, trivial⟩
theorem fa120 : AllT FnQ 64 7 ft120 := ⟨fun _ h => by cases h; exact ⟨Tryz.func70, Tryz.call70⟩, trivial, fa241⟩
theorem fa121 : AllT FnQ 64 39 ft121 := ⟨fun _ h => by cases h; exact ⟨Tryz.func102, Tryz.call102⟩, trivial, trivial⟩
theorem fa60 : AllT FnQ 32 7 ft60 := ⟨fun _ h => by cases h; exact ⟨Tryz.func38, Tryz.call38⟩, fa120, fa121⟩
theorem fa244 : AllT FnQ 128 23 ft244 := ⟨fun _ h => by cases h; exact ⟨Tryz.func150, Tryz.call150⟩, trivial, trivial⟩
theorem fa122 : AllT FnQ 64 23 ft122 := ⟨fun _ h => by cases h; exact ⟨Tryz.func86, Tryz.call86⟩, fa244, trivial⟩
theorem fa247 : AllT FnQ 128 119 ft247 := ⟨fun _ h => by cases h; exact ⟨Tryz.func246, Tryz.call246⟩, trivial, trivial⟩
theorem fa123 : AllT FnQ 64 55 ft123 := ⟨(fun _ h => nomatch h), trivial, fa247⟩
theorem fa61 : AllT FnQ 32 23 ft61 := ⟨fun _ h => by cases h; exact ⟨Tryz.func54, Tryz.call54⟩, fa122, fa123⟩
theorem fa30 : AllT FnQ 16 7 ft30 := ⟨fun _ h => by cases h; exact ⟨Tryz.func22, Tryz.call22⟩, fa60, fa61⟩
theorem fa249 : AllT FnQ 128 79 ft249 := ⟨fun _ h => by cases h; exact ⟨Tryz.func206, Tryz.call206⟩, trivial, trivial⟩
theorem fa124 : AllT FnQ 64 15 ft124 := ⟨(fun _ h => nomatch h), trivial, fa249⟩
theorem fa250 : AllT FnQ 128 47 ft250 := ⟨fun _ h => by cases h; exact ⟨Tryz.func174, Tryz.call174⟩, trivial, trivial⟩
theorem fa125 : AllT FnQ 64 47 ft125 := ⟨fun _ h => by cases h; exact ⟨Tryz.func110, Tryz.call110⟩, fa250, trivial⟩
theorem fa62 : AllT FnQ 32 15 ft62 := ⟨fun _ h => by cases h; exact ⟨Tryz.func46, Tryz.call46⟩, fa124, fa125⟩
theorem fa126 : AllT FnQ 64 31 ft126 := ⟨fun _ h => by cases h; exact ⟨Tryz.func94, Tryz.call94⟩, trivial, trivial⟩
theorem fa63 : AllT FnQ 32 31 ft63 := ⟨fun _ h => by cases h; exact ⟨Tryz.func62, Tryz.call62⟩, fa126, trivial⟩
theorem fa31 : AllT FnQ 16 15 ft31 := ⟨fun _ h => by cases h; exact ⟨Tryz.func30, Tryz.call30⟩, fa62, fa63⟩
theorem fa15 : AllT FnQ 8 7 ft15 := ⟨fun _ h => by cases h; exact ⟨Tryz.func14, Tryz.call14⟩, fa30, fa31⟩
theorem fa7 : AllT FnQ 4 3 ft7 := ⟨fun _ h => by cases h; exact ⟨Tryz.func6, Tryz.call6⟩, fa14, fa15⟩
theorem fa3 : AllT FnQ 2 1 ft3 := ⟨(fun _ h => nomatch h), fa6, fa7⟩
theorem fa1 : AllT FnQ 1 0 ft1 := ⟨(fun _ h => nomatch h), fa2, fa3⟩

theorem D_ok : DOk Tryz.prog G.D.at_ where
  row := fun t ti h => (AllT.atk da1 t ti h).1
  flds := fun t ti fs h hc f hf => by
    have hx := (AllT.atk da1 t ti h).2.1
    rw [hc] at hx
    have := List.all_eq_true.1 hx f hf
    exact Option.isSome_iff_exists.1 this
  flat := fun t ti h he => (AllT.atk da1 t ti h).2.2 he

theorem F_ok (k : Nat) (fn : Func) (h : G.F.at_ k = some fn) : Tryz.prog.funcs[k]? = some fn ∧ Enters Tryz.prog k := AllT.atk fa1 k fn h

theorem ext_run {k : FuncId} {fn : Func} {e : Array Value → Sem Value} (hf : Tryz.prog.funcs[k]? = some fn) (hname : (fn.name == "runtime.NumGoroutine") = false) (hb : fn.body.isNone = true) (hn : Extern.findNext fn = none) (he : Extern.find fn = some e) (args : Array Value) (w : World) :
    (callFunc k args).run Tryz.prog w = (do pure (.value (← e args)) : Sem Next).run Tryz.prog w := by
  rw [run_callFunc_extern hf hname hb hn he, Sem.run_bind]
  rfl

theorem extG_out {k c : Nat} (h : extG k = c + 1) : (k = 145 ∧ c = 9) ∨ (k = 157 ∧ c = 7) ∨ (k = 200 ∧ c = 0) ∨ (k = 210 ∧ c = 1) ∨ (k = 227 ∧ c = 2) := by
  unfold extG at h
  cases h1 : Nat.beq k 145 with
  | true => have := beq_nat h1; simp only [h1, cond_true] at h; omega
  | false =>
    cases h2 : Nat.beq k 157 with
    | true => have := beq_nat h2; simp only [h1, h2, cond_true, cond_false] at h; omega
    | false =>
      cases h3 : Nat.beq k 200 with
      | true => have := beq_nat h3; simp only [h1, h2, h3, cond_true, cond_false] at h; omega
      | false =>
        cases h4 : Nat.beq k 210 with
        | true => have := beq_nat h4; simp only [h1, h2, h3, h4, cond_true, cond_false] at h; omega
        | false =>
          cases h5 : Nat.beq k 227 with
          | true => have := beq_nat h5; simp only [h1, h2, h3, h4, h5, cond_true, cond_false] at h; omega
          | false => simp only [h1, h2, h3, h4, h5, cond_false] at h; omega

theorem ext_ok : ExtOk Tryz.prog G.D.at_ G.bt G.ext where
  cmp := fun k hk args w => by
    have : k = 200 := by rcases extG_out (c := 0) hk with ⟨h, g⟩ | ⟨h, g⟩ | ⟨h, g⟩ | ⟨h, g⟩ | ⟨h, g⟩ <;> first | exact h | cases g
    subst this
    exact ext_run Tryz.func200 (by kernel_rfl) (by kernel_rfl) (by kernel_rfl) (by kernel_rfl) args w
  esc := fun k hk args w => by
    have : k = 210 := by rcases extG_out (c := 1) hk with ⟨h, g⟩ | ⟨h, g⟩ | ⟨h, g⟩ | ⟨h, g⟩ | ⟨h, g⟩ <;> first | exact h | cases g
    subst this
    exact ext_run Tryz.func210 (by kernel_rfl) (by kernel_rfl) (by kernel_rfl) (by kernel_rfl) args w
  mkz := fun k hk => by
    have : k = 227 := by rcases extG_out (c := 2) hk with ⟨h, g⟩ | ⟨h, g⟩ | ⟨h, g⟩ | ⟨h, g⟩ | ⟨h, g⟩ <;> first | exact h | cases g
    subst this
    exact ⟨Tryz.f227.params, Tryz.f227.resultTypes, 179, ti179, ti5, by kernel_rfl, by kernel_rfl, by kernel_rfl, by kernel_rfl, fun args w => ext_run Tryz.func227 (by kernel_rfl) (by kernel_rfl) (by kernel_rfl) (by kernel_rfl) args w⟩
  ov := fun k s hk => by
    have : (k = 145 ∧ s = 6) ∨ (k = 157 ∧ s = 4) := by rcases extG_out (c := s + 3) hk with ⟨h, g⟩ | ⟨h, g⟩ | ⟨h, g⟩ | ⟨h, g⟩ | ⟨h, g⟩ <;> first | exact .inl ⟨h, by omega⟩ | exact .inr ⟨h, by omega⟩ | omega
    rcases this with ⟨rfl, rfl⟩ | ⟨rfl, rfl⟩
    · exact ⟨Tryz.f145.params, Tryz.f145.resultTypes, 100, 157, ti100, ti157, by kernel_rfl, by kernel_rfl, by kernel_rfl, by kernel_rfl, by kernel_rfl, fun args w => ext_run Tryz.func145 (by kernel_rfl) (by kernel_rfl) (by kernel_rfl) (by kernel_rfl) args w⟩
    · exact ⟨Tryz.f157.params, Tryz.f157.resultTypes, 142, 176, ti142, ti176, by kernel_rfl, by kernel_rfl, by kernel_rfl, by kernel_rfl, by kernel_rfl, fun args w => ext_run Tryz.func157 (by kernel_rfl) (by kernel_rfl) (by kernel_rfl) (by kernel_rfl) args w⟩

theorem mixed_ok : Tryz.prog.follows .mixedOrders = true := by kernel_rfl

end Go.Proofs.YtdkcihleblbkaaaGreatDoor.Eng
