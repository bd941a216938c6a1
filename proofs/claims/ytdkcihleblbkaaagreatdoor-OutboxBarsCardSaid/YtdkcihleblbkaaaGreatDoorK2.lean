/- A verified symbolic executor, part K2: weakened states and how they are told; the states at the head of the law's loop. -/
import Derived.Test.YtdkcihleblbkaaaGreatDoorEe
namespace Go.Proofs.YtdkcihleblbkaaaGreatDoor.Eng
set_option linter.unusedVariables false
set_option linter.unusedSimpArgs false
set_option linter.unusedSectionVars false
open Go

/-! ### what is weaker -/
/-- bytes that may be less known -/
def wkY : List Nat → List Nat → Bool
  | [], [] => true
  | a :: s, b :: t => (Nat.beq a b || Nat.ble 257 b) && wkY s t
  | _, _ => false

def wkV : AV → AV → Bool
  | a, b => match b with
    | .any => true
    | .aint k' lo hi => (match a with
      | .int k n => decide (k = k') && decide (lo ≤ n) && decide (n ≤ hi)
      | a => AV.beq a (.aint k' lo hi))
    | .astr lo hi => (match a with
      | .str s => Nat.ble lo s.length && Nat.ble s.length hi
      | .astr lo' hi' => Nat.ble lo lo' && Nat.ble hi' hi
      | _ => false)
    | .ifq j' x' y' => (match a with
      | .ifq j x y => Nat.beq j j' && AV.beq x x' && AV.beq y y'
      | _ => false)
    | .agg [.str t, y'] => (match a with
      | .agg [.str s, y] => wkY s t && AV.beq y y'
      | _ => false)
    | b => AV.beq a b

def wkL : List AV → List AV → Bool
  | [], [] => true
  | a :: l, b :: m => wkV a b && wkL l m
  | _, _ => false

def wkM : List (AV × AV) → List (AV × AV) → Bool
  | [], [] => true
  | a :: l, b :: m => wkV a.1 b.1 && wkV a.2 b.2 && wkM l m
  | _, _ => false

def wkB (a b : ABlk) : Bool :=
  match b with
  | .row et' cs' o' b' fz' sm' => (match a with
    | .row et cs o b fz sm => Nat.beq et et' && (o == o') && (b == b') && Nat.beq fz fz' && (sm == sm') && wkL cs cs'
    | _ => false)
  | .map es' => (match a with
    | .map es => wkM es es'
    | _ => false)
  | _ => false

def wkH (h : T ABlk) : List (Nat × ABlk) → Bool
  | [] => true
  | (id, b) :: l => (match h.at_ id with
    | some a => wkB a b
    | none => false) && wkH h l

def wkO (a b : Option AV) : Bool := wkV (a.getD undefA) (b.getD undefA)

def wkT : T AV → T AV → Bool
  | .leaf, .leaf => true
  | .node .., .leaf => false
  | .leaf, .node l v r => wkO none v && wkT .leaf l && wkT .leaf r
  | .node l v r, .node l' v' r' => wkO v v' && wkT l l' && wkT r r'

def mkH : List (Nat × ABlk) → T ABlk
  | [] => .leaf
  | (id, b) :: l => (mkH l).put id (some b)

/-- a state that is told by its temporaries and its objects -/
structure Scn where
  tm : T AV
  n : Nat
  hs : List (Nat × ABlk)
  nx : Nat

def Scn.st (t : Scn) : St := { tm := t.tm, n := t.n, df := [], h := mkH t.hs, nx := t.nx, ro := 0, wl := [], mw := 0 }

def wkS (s : St) (t : Scn) : Bool := Nat.beq s.n t.n && (match s.df with | [] => true | _ => false) && Nat.ble s.nx t.nx && wkT s.tm t.tm && wkH s.h t.hs

/-! ### the states at the head of the loop -/
def tA0 : T AV := .node .leaf (some .any) .leaf
def tA1 : T AV := .node tA0 (some .any) .leaf
def tA2 : T AV := .node tA1 (some .any) tA1
def tA3 : T AV := .node tA1 (some .any) tA0
def tA4 : T AV := .node tA2 (some .any) tA3
def tA5 : T AV := .node tA4 (some .any) tA4
def tA6 : T AV := .node tA3 (some .any) tA3
def tA7 : T AV := .node tA4 (some .any) tA6
def tmS (a0 a1 a12 : AV) : T AV := (.node (.node (.node tA5 (some (.aint .u8 0 255)) (.node tA4 (some (.ptr 11 0)) tA6)) (some a1) (.node (.node tA4 (some (.ptr 10 0)) tA6) (some .any) tA7)) (some a0) (.node (.node (.node tA4 (some (.bool false)) tA6) (some .any) (.node tA4 (some a12) tA6)) (some (.aint .i64 (-9223372036854775808) 9223372036854775807)) (.node (.node tA4 (some (.int .i64 0)) tA6) (some .any) tA7)))

def two (k : Nat) : List Nat := [48 + k / 10, 48 + k % 10]
def pad20 (k : Nat) : List Nat := List.replicate 18 48 ++ two k
def dec (k : Nat) : List Nat := bif Nat.blt k 10 then [48 + k] else two k
def keyI (k : Nat) : AV := .str ([113, 47, 256, 47, 105, 47] ++ pad20 k)
def keyT : AV := .str [113, 47, 256, 47, 116]
def valI : AV := .str [0, 0, 0, 0, 0, 0, 0, 0, 257, 257, 257, 257, 257, 257, 257, 257, 120]
def entE : Nat → List AV → List AV
  | 0, r => r
  | k + 1, r => entE k (keyI (k + 1) :: keyI (k + 1) :: valI :: .bool false :: r)
def rowE (k : Nat) : List AV := entE k [keyT, keyT, .str (dec k), .bool false]
def rowI : Nat → List AV → List AV
  | 0, r => r
  | k + 1, r => rowI k (.str [120] :: .int .u64 (Int.ofNat (k + 1)) :: .int .i64 0 :: .aint .i64 (-9223372036854775808) 9223372036854775807 :: r)
def eight (f : Nat → AV) : List AV := [f 0, f 1, f 2, f 3, f 4, f 5, f 6, f 7]
def boxR (k : Nat) : List AV := bif Nat.beq k 0 then eight (fun _ => .sl0) ++ eight (fun _ => .int .u64 0) ++ [.sl0]
  else eight (fun j => .ifq j (.sl (12 + 48 * k) 0 k none 4) .sl0) ++ eight (fun j => .ifq j (.int .u64 (Int.ofNat k)) (.int .u64 0)) ++ [.sl0]
def logN : AV := .str [108, 111, 103, 46, 48, 48, 48, 48, 48, 48, 48, 48, 48, 48, 48, 49]
def len1 (k : Nat) : Nat := bif Nat.beq k 0 then 0 else bif Nat.blt k 10 then 6 + 43 * k else 7 + 43 * k
def len2 (k : Nat) : Nat := bif Nat.blt k 10 then 58 * k else 59 * k - 9
def len3 (k : Nat) : Nat := bif Nat.blt k 10 then 66 * k else 67 * k - 9
def ide (k : Nat) : Nat := bif Nat.beq k 1 then 56 else 4 + 48 * k
def nxS (k : Nat) : Nat := bif Nat.beq k 0 then 12 else 13 + 48 * k
def intN (k : Nat) : AV := .int .i64 (Int.ofNat k)
/-- the objects after k items -/
def hsS (k : Nat) : List (Nat × ABlk) :=
  [(0, .map [(logN, .agg [.str (List.replicate (len3 k) 257), intN (len3 k)])]),
   (1, .row 60 [.map 0, .bool false, .int .i64 0, .int .i64 (-1)] false true 0 false),
   (2, .row 138 [.ptr 1 0, .int .i64 1, .int .i64 0, .sl0, .bool false] false true 0 false),
   (3, .row 144 [bif Nat.beq k 0 then .sl0 else .sl (ide k) 0 (k + 1) none 4, .bool false] false true 0 false),
   (4, .row 106 [.ptr 3 0, .sl0, .sl0, .sl0, .sl0, .ptr 1 0, .ptr 5 0, .ptr 2 0, intN (len1 k), intN (len2 k), .bool false] false true 0 false),
   (5, .row 167 [.ptr 6 0, .str [108, 111, 103], .sl0, intN k, .bool false] false true 0 false),
   (6, .row 192 [.ptr 1 0, logN, .int .i64 1, intN (len3 k)] false true 0 false),
   (10, .row 57 [.ptr 4 0, .ptr 1 0, .bool false] false true 0 false),
   (11, .row 35 (boxR k) false true 0 false)] ++
  (bif Nat.beq k 0 then [] else [(ide k, .row 176 (rowE k) true false 0 false), (12 + 48 * k, .row 66 (rowI k []) true true 0 false)])

/-- the state at the head of the loop's round k, where 'to' is a digit -/
def toldS (a1 : AV) (k : Nat) : Scn := { tm := tmS (.intq .i64 0) a1 (intN k), n := 168, hs := hsS (bif Nat.ble k 64 then k else 64), nx := nxS (bif Nat.ble k 64 then k else 64) }
/-- the same where 'to' is none -/
def toldN (a0 a12 : AV) : Scn := { tm := tmS a0 (.astr 0 20000) a12, n := 168, hs := hsS 0, nx := 12 }

end Go.Proofs.YtdkcihleblbkaaaGreatDoor.Eng
