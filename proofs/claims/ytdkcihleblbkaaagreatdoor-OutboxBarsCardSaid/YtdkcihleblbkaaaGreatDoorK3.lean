/- A verified symbolic executor, part K3: the pieces of the law's code, the checks of a round and of what follows the loop, and what they say. -/
import Derived.Test.YtdkcihleblbkaaaGreatDoorK1
import Derived.Test.YtdkcihleblbkaaaGreatDoorK2
namespace Go.Proofs.YtdkcihleblbkaaaGreatDoor.Eng
set_option linter.unusedVariables false
set_option linter.unusedSimpArgs false
set_option linter.unusedSectionVars false
open Go

def sq1 : CC → CC
  | .seq a _ => a
  | c => c
def sq2 : CC → CC
  | .seq _ b => b
  | c => c
def inBlk : CC → CC
  | .block _ b => b
  | c => c
def inLoop : CC → CC
  | .loop b => b
  | c => c

noncomputable def R1 : CC := sq2 cf3.body
noncomputable def R2 : CC := sq2 R1
noncomputable def R3 : CC := sq2 R2
noncomputable def R4 : CC := sq2 R3
noncomputable def R5 : CC := sq2 R4
noncomputable def R6 : CC := sq2 R5
/-- the loop with what sets it up -/
noncomputable def LS : CC := sq1 R6
/-- what follows the loop -/
noncomputable def LT : CC := sq2 R6
/-- a round -/
noncomputable def LB : CC := inLoop (inBlk (sq2 LS))

theorem R1_eq : cf3.body = .seq (sq1 cf3.body) R1 := rfl
theorem R2_eq : R1 = .seq (sq1 R1) R2 := rfl
theorem R3_eq : R2 = .seq (sq1 R2) R3 := rfl
theorem R4_eq : R3 = .seq (sq1 R3) R4 := rfl
theorem R5_eq : R4 = .seq (sq1 R4) R5 := rfl
theorem R6_eq : R5 = .seq (sq1 R5) R6 := rfl
theorem R7_eq : R6 = .seq LS LT := rfl
theorem LS_eq : LS = .seq (sq1 LS) (.block 0 (.loop LB)) := rfl

noncomputable def runX (C : CC) (st : St) : Option Out := execC (G.xC (G.bothC ct1 40).1 (G.bothC ct1 40).2 3) C st

def allL (p : Jump → St → Bool) : Out → Bool
  | [] => true
  | x :: l => p x.1 x.2 && allL p l
def allO (p : Jump → St → Bool) : Option Out → Bool
  | none => false
  | some l => allL p l

/-- a round's end: out of the loop in the same scene, or at the next -/
def endB (a : Scn) (b : Option Scn) (j : Jump) (s : St) : Bool :=
  match j with
  | .exit i => Nat.beq i 0 && wkS s a
  | .normal => (match b with
    | some b => wkS s b
    | none => false)
  | .ret => false

/-- straight on to a scene -/
def endN (a : Scn) (j : Jump) (s : St) : Bool :=
  match j with
  | .normal => wkS s a
  | _ => false

/-- the function's end, with true -/
def endT (j : Jump) (s : St) : Bool :=
  match j with
  | .exit _ => false
  | _ => (match s.df with | [] => true | _ => false) && Nat.blt 8 s.n && (match s.tm.at_ 8 with | some (.bool b) => b | _ => false)

/-! ### scenes ahead of the loop -/
def tmA (a0 a1 : AV) : T AV := ((((tmS a0 a1 .any).put 9 (some .any)).put 10 (some .any)).put 11 (some .any))
def tmB (a0 a1 : AV) : T AV := (tmS a0 a1 .any).put 11 (some .any)
def scnA (a0 a1 : AV) : Scn := { tm := tmA a0 a1, n := 168, hs := [], nx := 0 }
def scnB (a0 a1 : AV) : Scn := { tm := tmB a0 a1, n := 168, hs := (hsS 0).take 8, nx := 11 }
def scnC (a0 a1 : AV) : Scn := { tm := tmS a0 a1 .any, n := 168, hs := hsS 0, nx := 12 }
def now0 : AV := .aint .i64 (-9223372036854775808) 9223372036854775807
def there0 : AV := .aint .u8 0 255
def args0 (a0 a1 : AV) : List AV := [a0, a1, now0, there0]
def toD : AV := .intq .i64 0
def toN : AV := .aint .i64 (-9223372036854775808) (-1)
def toP : AV := .aint .i64 8 9223372036854775807
def txA : AV := .astr 0 20000
def txS : AV := .astr 0 16368
def txB : AV := .astr 16369 20000
def txL : AV := .astr 20001 9223372036854775807

def upTo (p : Nat → Bool) : Nat → Bool
  | 0 => true
  | n + 1 => p n && upTo p n

def nextS (k : Nat) : Option Scn := bif Nat.blt k 65 then some (toldS txA (k + 1)) else none
def nextN (a0 : AV) (k : Nat) : Option Scn := bif Nat.blt k 65 then some (toldN a0 (intN (k + 1))) else none

end Go.Proofs.YtdkcihleblbkaaaGreatDoor.Eng
