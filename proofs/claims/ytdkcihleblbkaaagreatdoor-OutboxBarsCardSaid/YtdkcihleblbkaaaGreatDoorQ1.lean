/- A verified symbolic executor, part Q1: code made ready for a quick run, and that run (definitions). No project text. -/
import Derived.Test.YtdkcihleblbkaaaGreatDoorEe
namespace Go.Proofs.YtdkcihleblbkaaaGreatDoor.Eng
set_option linter.unusedVariables false
set_option linter.unusedSimpArgs false
set_option linter.unusedSectionVars false
open Go

/-- if b then x else y -/
noncomputable abbrev ife {α : Sort _} (b : Bool) (x y : α) : α := Bool.rec y x b
noncomputable abbrev ob {α β : Type _} (x : Option α) (f : α → Option β) : Option β := Option.rec none f x

noncomputable def getF {α : Type} (t : T α) (n : Nat) : Option α :=
  T.rec (motive := fun _ => Nat → Option α) (fun _ => none)
    (fun _ v _ l r n => Bool.rec (motive := fun _ => Option α) (Bool.rec (motive := fun _ => Option α) (r (Nat.div n 2)) (l (Nat.div n 2)) (Nat.beq (Nat.mod n 2) 0)) v (Nat.beq n 1)) t n
noncomputable def atF {α : Type} (t : T α) (i : Nat) : Option α := getF t (Nat.succ i)
noncomputable def seqF {α β : Type} (t : T α) (k : T α → β) : β := T.rec (motive := fun _ => (T α → β) → β) (fun k => k .leaf) (fun l v r _ _ k => k (.node l v r)) t k

/-! ### ways to a key -/
inductive Pth where
  | e
  | l (p : Pth)
  | r (p : Pth)

def pth : Nat → Nat → Pth
  | 0, _ => .e
  | f + 1, n => bif Nat.beq n 1 then .e else bif Nat.beq (Nat.mod n 2) 0 then .l (pth f (Nat.div n 2)) else .r (pth f (Nat.div n 2))

def pthOf (i : Nat) : Pth := pth (i + 1) (i + 1)

noncomputable def getP {α : Type} (t : T α) (p : Pth) : Option α :=
  Pth.rec (motive := fun _ => T α → Option α) (fun t => T.rec (motive := fun _ => Option α) none (fun _ v _ _ _ => v) t)
    (fun _ ih t => T.rec (motive := fun _ => (T α → Option α) → Option α) (fun _ => none) (fun l _ _ _ _ ih => ih l) t ih)
    (fun _ ih t => T.rec (motive := fun _ => (T α → Option α) → Option α) (fun _ => none) (fun _ _ r _ _ ih => ih r) t ih) p t

noncomputable def setP {α : Type} (p : Pth) (t : T α) (x : Option α) : T α :=
  Pth.rec (motive := fun _ => T α → Option α → T α)
    (fun t x => T.rec (motive := fun _ => Option α → T α) (fun x => .node .leaf x .leaf) (fun l _ r _ _ x => .node l x r) t x)
    (fun _ ih t x => T.rec (motive := fun _ => (T α → Option α → T α) → Option α → T α) (fun ih x => seqF (ih .leaf x) fun l => .node l none .leaf) (fun l v r _ _ ih x => seqF (ih l x) fun l' => .node l' v r) t ih x)
    (fun _ ih t x => T.rec (motive := fun _ => (T α → Option α → T α) → Option α → T α) (fun ih x => seqF (ih .leaf x) fun r => .node .leaf none r) (fun l v r _ _ ih x => seqF (ih r x) fun r' => .node l v r') t ih x) p t x

noncomputable def putF {α : Type} (t : T α) (i : Nat) (x : Option α) : T α := setP (pthOf i) t x

noncomputable def getU (x : Option AV) : AV := Option.rec undefA (fun a => a) x

/-! ### cases of values -/
noncomputable def AV.onAny {β : Type} (a : AV) (f : Unit → β) (z : β) : β := AV.rec (motive_1 := fun _ => (Unit → β) → β → β) (motive_2 := fun _ => Unit) (fun f _ => f ()) (fun _ _ z => z) (fun _ z => z) (fun _ _ _ z => z) (fun _ _ _ _ z => z) (fun _ _ _ z => z) (fun _ _ z => z) (fun _ _ _ z => z) (fun _ z => z) (fun _ _ _ z => z) (fun _ z => z) (fun _ _ _ _ _ _ z => z) (fun _ z => z) (fun _ _ z => z) (fun _ _ _ _ _ _ z => z) (fun _ _ z => z) (fun _ z => z) (fun _ _ _ _ z => z) (fun _ z => z) (fun _ _ _ _ _ _ z => z) (fun _ _ _ z => z) (fun _ _ _ z => z) (fun _ _ _ z => z) () (fun _ _ _ _ => ()) a f z
noncomputable def AV.onBool {β : Type} (a : AV) (f : Bool → β) (z : β) : β := AV.rec (motive_1 := fun _ => (Bool → β) → β → β) (motive_2 := fun _ => Unit) (fun _ z => z) (fun x0 f _ => f x0) (fun _ z => z) (fun _ _ _ z => z) (fun _ _ _ _ z => z) (fun _ _ _ z => z) (fun _ _ z => z) (fun _ _ _ z => z) (fun _ z => z) (fun _ _ _ z => z) (fun _ z => z) (fun _ _ _ _ _ _ z => z) (fun _ z => z) (fun _ _ z => z) (fun _ _ _ _ _ _ z => z) (fun _ _ z => z) (fun _ z => z) (fun _ _ _ _ z => z) (fun _ z => z) (fun _ _ _ _ _ _ z => z) (fun _ _ _ z => z) (fun _ _ _ z => z) (fun _ _ _ z => z) () (fun _ _ _ _ => ()) a f z
noncomputable def AV.onUbool {β : Type} (a : AV) (f : Unit → β) (z : β) : β := AV.rec (motive_1 := fun _ => (Unit → β) → β → β) (motive_2 := fun _ => Unit) (fun _ z => z) (fun _ _ z => z) (fun f _ => f ()) (fun _ _ _ z => z) (fun _ _ _ _ z => z) (fun _ _ _ z => z) (fun _ _ z => z) (fun _ _ _ z => z) (fun _ z => z) (fun _ _ _ z => z) (fun _ z => z) (fun _ _ _ _ _ _ z => z) (fun _ z => z) (fun _ _ z => z) (fun _ _ _ _ _ _ z => z) (fun _ _ z => z) (fun _ z => z) (fun _ _ _ _ z => z) (fun _ z => z) (fun _ _ _ _ _ _ z => z) (fun _ _ _ z => z) (fun _ _ _ z => z) (fun _ _ _ z => z) () (fun _ _ _ _ => ()) a f z
noncomputable def AV.onInt {β : Type} (a : AV) (f : IntKind → Int → β) (z : β) : β := AV.rec (motive_1 := fun _ => (IntKind → Int → β) → β → β) (motive_2 := fun _ => Unit) (fun _ z => z) (fun _ _ z => z) (fun _ z => z) (fun x0 x1 f _ => f x0 x1) (fun _ _ _ _ z => z) (fun _ _ _ z => z) (fun _ _ z => z) (fun _ _ _ z => z) (fun _ z => z) (fun _ _ _ z => z) (fun _ z => z) (fun _ _ _ _ _ _ z => z) (fun _ z => z) (fun _ _ z => z) (fun _ _ _ _ _ _ z => z) (fun _ _ z => z) (fun _ z => z) (fun _ _ _ _ z => z) (fun _ z => z) (fun _ _ _ _ _ _ z => z) (fun _ _ _ z => z) (fun _ _ _ z => z) (fun _ _ _ z => z) () (fun _ _ _ _ => ()) a f z
noncomputable def AV.onStr {β : Type} (a : AV) (f : List Nat → β) (z : β) : β := AV.rec (motive_1 := fun _ => (List Nat → β) → β → β) (motive_2 := fun _ => Unit) (fun _ z => z) (fun _ _ z => z) (fun _ z => z) (fun _ _ _ z => z) (fun _ _ _ _ z => z) (fun _ _ _ z => z) (fun x0 f _ => f x0) (fun _ _ _ z => z) (fun _ z => z) (fun _ _ _ z => z) (fun _ z => z) (fun _ _ _ _ _ _ z => z) (fun _ z => z) (fun _ _ z => z) (fun _ _ _ _ _ _ z => z) (fun _ _ z => z) (fun _ z => z) (fun _ _ _ _ z => z) (fun _ z => z) (fun _ _ _ _ _ _ z => z) (fun _ _ _ z => z) (fun _ _ _ z => z) (fun _ _ _ z => z) () (fun _ _ _ _ => ()) a f z
noncomputable def AV.onPtr {β : Type} (a : AV) (f : Nat → Nat → β) (z : β) : β := AV.rec (motive_1 := fun _ => (Nat → Nat → β) → β → β) (motive_2 := fun _ => Unit) (fun _ z => z) (fun _ _ z => z) (fun _ z => z) (fun _ _ _ z => z) (fun _ _ _ _ z => z) (fun _ _ _ z => z) (fun _ _ z => z) (fun _ _ _ z => z) (fun _ z => z) (fun x0 x1 f _ => f x0 x1) (fun _ z => z) (fun _ _ _ _ _ _ z => z) (fun _ z => z) (fun _ _ z => z) (fun _ _ _ _ _ _ z => z) (fun _ _ z => z) (fun _ z => z) (fun _ _ _ _ z => z) (fun _ z => z) (fun _ _ _ _ _ _ z => z) (fun _ _ _ z => z) (fun _ _ _ z => z) (fun _ _ _ z => z) () (fun _ _ _ _ => ()) a f z
noncomputable def AV.onSl {β : Type} (a : AV) (f : Nat → Nat → Nat → Option Nat → Nat → β) (z : β) : β := AV.rec (motive_1 := fun _ => (Nat → Nat → Nat → Option Nat → Nat → β) → β → β) (motive_2 := fun _ => Unit) (fun _ z => z) (fun _ _ z => z) (fun _ z => z) (fun _ _ _ z => z) (fun _ _ _ _ z => z) (fun _ _ _ z => z) (fun _ _ z => z) (fun _ _ _ z => z) (fun _ z => z) (fun _ _ _ z => z) (fun _ z => z) (fun x0 x1 x2 x3 x4 f _ => f x0 x1 x2 x3 x4) (fun _ z => z) (fun _ _ z => z) (fun _ _ _ _ _ _ z => z) (fun _ _ z => z) (fun _ z => z) (fun _ _ _ _ z => z) (fun _ z => z) (fun _ _ _ _ _ _ z => z) (fun _ _ _ z => z) (fun _ _ _ z => z) (fun _ _ _ z => z) () (fun _ _ _ _ => ()) a f z
noncomputable def AV.onFn {β : Type} (a : AV) (f : FuncId → List AV → List AV → β) (z : β) : β := AV.rec (motive_1 := fun _ => (FuncId → List AV → List AV → β) → β → β) (motive_2 := fun _ => Unit) (fun _ z => z) (fun _ _ z => z) (fun _ z => z) (fun _ _ _ z => z) (fun _ _ _ _ z => z) (fun _ _ _ z => z) (fun _ _ z => z) (fun _ _ _ z => z) (fun _ z => z) (fun _ _ _ z => z) (fun _ z => z) (fun _ _ _ _ _ _ z => z) (fun _ z => z) (fun _ _ z => z) (fun x0 x1 x2 _ _ f _ => f x0 x1 x2) (fun _ _ z => z) (fun _ z => z) (fun _ _ _ _ z => z) (fun _ z => z) (fun _ _ _ _ _ _ z => z) (fun _ _ _ z => z) (fun _ _ _ z => z) (fun _ _ _ z => z) () (fun _ _ _ _ => ()) a f z
noncomputable def AV.onIfq {β : Type} (a : AV) (f : Nat → AV → AV → β) (z : β) : β := AV.rec (motive_1 := fun _ => (Nat → AV → AV → β) → β → β) (motive_2 := fun _ => Unit) (fun _ z => z) (fun _ _ z => z) (fun _ z => z) (fun _ _ _ z => z) (fun _ _ _ _ z => z) (fun _ _ _ z => z) (fun _ _ z => z) (fun _ _ _ z => z) (fun _ z => z) (fun _ _ _ z => z) (fun _ z => z) (fun _ _ _ _ _ _ z => z) (fun _ z => z) (fun _ _ z => z) (fun _ _ _ _ _ _ z => z) (fun _ _ z => z) (fun _ z => z) (fun _ _ _ _ z => z) (fun _ z => z) (fun x0 x1 x2 _ _ f _ => f x0 x1 x2) (fun _ _ _ z => z) (fun _ _ _ z => z) (fun _ _ _ z => z) () (fun _ _ _ _ => ()) a f z
noncomputable def AV.onAgg {β : Type} (a : AV) (f : List AV → β) (z : β) : β := AV.rec (motive_1 := fun _ => (List AV → β) → β → β) (motive_2 := fun _ => Unit) (fun _ z => z) (fun _ _ z => z) (fun _ z => z) (fun _ _ _ z => z) (fun _ _ _ _ z => z) (fun _ _ _ z => z) (fun _ _ z => z) (fun _ _ _ z => z) (fun _ z => z) (fun _ _ _ z => z) (fun _ z => z) (fun _ _ _ _ _ _ z => z) (fun _ z => z) (fun _ _ z => z) (fun _ _ _ _ _ _ z => z) (fun _ _ z => z) (fun _ z => z) (fun _ _ _ _ z => z) (fun _ z => z) (fun _ _ _ _ _ _ z => z) (fun _ _ _ z => z) (fun x0 _ f _ => f x0) (fun _ _ _ z => z) () (fun _ _ _ _ => ()) a f z
noncomputable def AV.onTup {β : Type} (a : AV) (f : List AV → β) (z : β) : β := AV.rec (motive_1 := fun _ => (List AV → β) → β → β) (motive_2 := fun _ => Unit) (fun _ z => z) (fun _ _ z => z) (fun _ z => z) (fun _ _ _ z => z) (fun _ _ _ _ z => z) (fun _ _ _ z => z) (fun _ _ z => z) (fun _ _ _ z => z) (fun _ z => z) (fun _ _ _ z => z) (fun _ z => z) (fun _ _ _ _ _ _ z => z) (fun _ z => z) (fun _ _ z => z) (fun _ _ _ _ _ _ z => z) (fun _ _ z => z) (fun _ z => z) (fun _ _ _ _ z => z) (fun _ z => z) (fun _ _ _ _ _ _ z => z) (fun _ _ _ z => z) (fun _ _ _ z => z) (fun x0 _ f _ => f x0) () (fun _ _ _ _ => ()) a f z

noncomputable def ABlk.onRow {β : Type} (b : ABlk) (f : TypeId → List AV → Bool → Bool → Nat → Bool → β) (z : β) : β :=
  ABlk.rec (motive := fun _ => (TypeId → List AV → Bool → Bool → Nat → Bool → β) → β → β) (fun et cs o b fz sm f _ => f et cs o b fz sm) (fun _ _ z => z) (fun _ _ z => z) (fun _ _ _ _ _ _ _ _ _ _ z => z) (fun _ _ z => z) b f z

noncomputable def nthF (l : List AV) (n : Nat) : Option AV :=
  List.rec (motive := fun _ => Nat → Option AV) (fun _ => none) (fun a _ ih n => Nat.rec (motive := fun _ => AV → (Nat → Option AV) → Option AV) (fun a _ => some a) (fun m _ _ ih => ih m) n a ih) l n

noncomputable def takeF (n : Nat) (l : List AV) : Option (List AV) :=
  Nat.rec (motive := fun _ => List AV → Option (List AV)) (fun _ => some []) (fun _ ih l => List.rec (motive := fun _ => (List AV → Option (List AV)) → Option (List AV)) (fun _ => none) (fun a t _ ih => ob (ih t) fun r => some (a :: r)) l ih) n l

noncomputable def dropF (n : Nat) (l : List AV) : List AV :=
  Nat.rec (motive := fun _ => List AV → List AV) (fun l => l) (fun _ ih l => List.rec (motive := fun _ => (List AV → List AV) → List AV) (fun _ => []) (fun _ t _ ih => ih t) l ih) n l

noncomputable def cutF (cs : List AV) (off n : Nat) : Option (List AV) := takeF n (dropF off cs)

noncomputable def overF (cs : List AV) (n : Nat) (vs : List AV) : Option (List AV) :=
  List.rec (motive := fun _ => Nat → List AV → Option (List AV))
    (fun n vs => Nat.rec (motive := fun _ => List AV → Option (List AV)) (fun vs => List.rec (motive := fun _ => Option (List AV)) (some []) (fun _ _ _ => none) vs) (fun _ _ _ => none) n vs)
    (fun c t ih n vs => Nat.rec (motive := fun _ => AV → List AV → (Nat → List AV → Option (List AV)) → List AV → Option (List AV))
      (fun c t ih vs => List.rec (motive := fun _ => AV → List AV → (Nat → List AV → Option (List AV)) → Option (List AV)) (fun c t _ => some (c :: t)) (fun v vs _ _ _ ih => ob (ih 0 vs) fun r => some (v :: r)) vs c t ih)
      (fun m _ c _ ih vs => ob (ih m vs) fun r => some (c :: r)) n c t ih vs) cs n vs


/-! ### code made ready -/
/-- operands -/
inductive CX where
  | t (t : Nat) (p : Pth)
  | c (a : AV)
  | n

noncomputable def evC (st : St) (x : CX) : Option AV :=
  CX.rec (motive := fun _ => St → Option AV) (fun t p st => ife (Nat.blt t st.n) (some (getU (getP st.tm p))) none) (fun a _ => some a) (fun _ => none) x st

inductive CO where
  | mv (op : Op) (x : CX)
  | pick (op : Op) (c a b : CX)
  | ext (op : Op) (x : CX) (i : Nat)
  | fa (op : Op) (off : Nat) (x : CX)
  | nil (op : Op) (x : CX)
  | bin (op : Op) (b : BinOp) (x y : CX)
  | ixa (op : Op) (size : Nat) (x i : CX)
  | len (op : Op) (str : Bool) (x : CX)
  | ld (op : Op) (agg : Bool) (size : Nat) (x : CX)
  | sto (op : Op) (size : Nat) (x y : CX)
  | call (op : Op) (k : FuncId) (args : List CX)
  | slow (op : Op)

/-- where a result goes -/
inductive CD where
  | no
  | to (d : Nat) (p : Pth)

/-- whether an operation is wanted -/
inductive CG where
  | yes
  | never
  | on (d : Nat) (p : Pth) (want : Bool)

structure CI where
  d : CD
  g : CG
  o : CO
  a : Nat := 0
  fr : Bool := false

inductive CC where
  | skip
  | reg (l : List CI)
  | drw (l : List CI)
  | seq (a b : CC)
  | cond (c : CX) (a b : CC)
  | block (id : Nat) (b : CC)
  | loop (b : CC)
  | rngf (g : Operand) (ps : Array Tmp) (asg body : Code)
  | exit (id : Nat)
  | scope (b : CC)
  | ret
  | bad

/-! ### how code is made ready -/
def compX : Operand → CX
  | .tmp t => .t t (pthOf t)
  | .const v => match ofVal v with
    | some a => .c a
    | none => .n
  | .global _ => .n
  | .func f => .c (.fn f [] [])

def compO (D : Ty) (ext : FuncId → Nat) (op : Op) : CO :=
  match op with
  | .move x => .mv op (compX x)
  | .assign x => .mv op (compX x)
  | .pick c a b => .pick op (compX c) (compX a) (compX b)
  | .extract x i => .ext op (compX x) i
  | .nilCheck x => .nil op (compX x)
  | .binOp b _ x y _ => .bin op b (compX x) (compX y)
  | .fieldAddr t x f => (match D t with
    | some ⟨.strct fs, _, _, _, _⟩ => (match fs[f]? with
      | some (ft, off) => (match D ft with
        | some ti => bif Nat.blt 0 ti.size then .fa op off (compX x) else .slow op
        | none => .slow op)
      | none => .slow op)
    | _ => .slow op)
  | .indexAddr t x ix => (match D t with
    | some ⟨.sl el, _, _, _, _⟩ => (match D el with
      | some ti => .ixa op ti.size (compX x) (compX ix)
      | none => .slow op)
    | _ => .slow op)
  | .load t x => (match D t with
    | some ti => .ld op ti.cls.agg ti.size (compX x)
    | none => .slow op)
  | .store t x y => (match D t with
    | some ti => .sto op ti.size (compX x) (compX y)
    | none => .slow op)
  | .call c => (match c.callee, c.args.toList, c.argTypes.toList with
    | .builtin .len, [x], [t] => (match D t with
      | some ⟨.str, _, _, _, _⟩ => .len op true (compX x)
      | some ⟨.sl _, _, _, _, _⟩ => .len op false (compX x)
      | _ => .slow op)
    | .value (.func k), args, _ => bif Nat.beq (ext k) 0 then .call op k (args.map compX) else .slow op
    | _, _, _ => .slow op)
  | _ => .slow op

def compD : Option Nat → CD
  | none => .no
  | some d => .to d (pthOf d)

def compG (ops : Array Oper) (o : Oper) : CG :=
  match o.guard with
  | none => .yes
  | some (j, want) => match (ops[j]?).bind (·.dst) with
    | none => .never
    | some d => .on d (pthOf d) want

def compI (D : Ty) (ext : FuncId → Nat) (ops : Array Oper) (x : Oper × Nat × Bool) : CI := ⟨compD x.1.dst, compG ops x.1, compO D ext x.1.op, x.2.1, x.2.2⟩

def comp (D : Ty) (ext : FuncId → Nat) : Code → CC
  | .skip => .skip
  | .label _ => .skip
  | .region _ ops draw => bif draw then (match tags ops with
      | some l => .drw (l.map (compI D ext ops))
      | none => .bad) else .reg (ops.toList.map fun o => compI D ext ops (o, 0, false))
  | .seq a b => .seq (comp D ext a) (comp D ext b)
  | .cond c a b => .cond (compX c) (comp D ext a) (comp D ext b)
  | .block id b => .block id (comp D ext b)
  | .loop b => .loop (comp D ext b)
  | .rangeFunc g ps asg body => .rngf g ps asg body
  | .exit id => .exit id
  | .scope b => .scope (comp D ext b)
  | .goto _ => .bad
  | .ret => .ret
  | .refuse _ => .bad

/-! ### the quick run -/
def mkO (op : Op) : Oper := ⟨none, op, 0, "", #[], none⟩

noncomputable def limF (k : IntKind) : Nat := IntKind.rec 128 32768 2147483648 9223372036854775808 256 65536 4294967296 18446744073709551616 k
noncomputable def modF (k : IntKind) : Nat := IntKind.rec 256 65536 4294967296 18446744073709551616 256 65536 4294967296 18446744073709551616 k
noncomputable def bitF (k : IntKind) : Nat := IntKind.rec 8 16 32 64 8 16 32 64 k
noncomputable def kNum (k : IntKind) : Nat := IntKind.rec 0 1 2 3 4 5 6 7 k
noncomputable def wrapN (k : IntKind) (m : Nat) : AV := ife (Nat.blt m (limF k)) (.int k (Int.ofNat m)) (.int k (wrapF k (Int.ofNat m)))

/-- two known numbers from nought on -/
noncomputable def natBin (b : BinOp) (k : IntKind) (m n : Nat) (z : Option AV) : Option AV :=
  BinOp.rec (motive := fun _ => IntKind → Nat → Nat → Option AV → Option AV)
    (fun k m n _ => some (wrapN k (Nat.add m n)))
    (fun k m n z => ife (Nat.ble n m) (some (wrapN k (Nat.sub m n))) z)
    (fun k m n _ => some (wrapN k (Nat.mul m n)))
    (fun _ _ _ z => z) (fun _ _ _ z => z)
    (fun k m n _ => some (wrapN k (Nat.land (Nat.mod m (modF k)) (Nat.mod n (modF k)))))
    (fun k m n _ => some (wrapN k (Nat.lor (Nat.mod m (modF k)) (Nat.mod n (modF k)))))
    (fun k m n _ => some (wrapN k (Nat.xor (Nat.mod m (modF k)) (Nat.mod n (modF k)))))
    (fun k m n _ => some (wrapN k (Nat.mul m (Nat.pow 2 (ife (Nat.ble n (bitF k)) n (bitF k))))))
    (fun k m n _ => some (.int k (Int.ofNat (Nat.div m (Nat.pow 2 (ife (Nat.ble n (bitF k)) n (bitF k)))))))
    (fun _ _ _ z => z)
    (fun _ m n _ => some (.bool (Nat.beq m n)))
    (fun _ m n _ => some (.bool (not (Nat.beq m n))))
    (fun _ m n _ => some (.bool (Nat.blt m n)))
    (fun _ m n _ => some (.bool (Nat.ble m n)))
    (fun _ m n _ => some (.bool (Nat.blt n m)))
    (fun _ m n _ => some (.bool (Nat.ble n m)))
    b k m n z

noncomputable def isShift (b : BinOp) : Bool := BinOp.rec false false false false false false false false true true false false false false false false false b

noncomputable def onNat {β : Type} (x : Int) (f : Nat → β) (z : β) : β := Int.rec (motive := fun _ => (Nat → β) → β → β) (fun m f _ => f m) (fun _ _ z => z) x f z

noncomputable def lenF {α : Type} (l : List α) : Nat := List.rec 0 (fun _ _ ih => Nat.succ ih) l

noncomputable def evLC (st : St) (l : List CX) : Option (List AV) := List.rec (some []) (fun x _ ih => ob (evC st x) fun a => ob ih fun r => some (a :: r)) l

/-- what leaves the heap as it is -/
noncomputable def runP (D : Ty) (st : St) (o : CO) : Option AV :=
  CO.rec (motive := fun _ => Ty → St → Option AV)
    (fun _ x _ st => evC st x)
    (fun _ c a b _ st => ob (evC st c) fun v => v.onBool (fun t => ife t (evC st a) (evC st b)) none)
    (fun _ x i _ st => ob (evC st x) fun a => a.onTup (fun l => nthF l i) none)
    (fun _ off x _ st => ob (evC st x) fun a => a.onPtr (fun i o' => some (.ptr i (Nat.add o' off))) none)
    (fun op x D st => ob (evC st x) fun a => a.onPtr (fun i off => some (.ptr i off)) (pureA D (ev st) (mkO op)))
    (fun op b x y D st => ob (evC st x) fun a => a.onInt (fun k m => ob (evC st y) fun c => c.onInt (fun k' n => onNat m (fun m => onNat n (fun n =>
        ife (Bool.rec (Nat.beq (kNum k) (kNum k')) true (isShift b)) (natBin b k m n (pureA D (ev st) (mkO op))) (pureA D (ev st) (mkO op))) (pureA D (ev st) (mkO op))) (pureA D (ev st) (mkO op))) (pureA D (ev st) (mkO op))) (pureA D (ev st) (mkO op)))
    (fun op size x i D st => ob (evC st x) fun a => a.onSl (fun id off len _ _ => ob (evC st i) fun c => c.onInt (fun _ n => onNat n (fun n => ife (Nat.blt n len) (some (.ptr id (Nat.add off (Nat.mul n size)))) none) (pureA D (ev st) (mkO op))) (pureA D (ev st) (mkO op))) (pureA D (ev st) (mkO op)))
    (fun op str x D st => ob (evC st x) fun a => ife str (a.onStr (fun s => some (.int .i64 (Int.ofNat (lenF s)))) (pureA D (ev st) (mkO op))) (a.onSl (fun _ _ n _ _ => some (.int .i64 (Int.ofNat n))) (pureA D (ev st) (mkO op))))
    (fun _ _ _ _ _ _ => none)
    (fun _ _ _ _ _ _ => none)
    (fun _ _ _ _ _ => none)
    (fun op D st => pureA D (ev st) (mkO op)) o D st

noncomputable def loadF (agg : Bool) (size off : Nat) (cells : List AV) : Option AV := ife agg (ob (cutF cells off size) fun l => some (.agg l)) (nthF cells off)
noncomputable def putH (st : St) (id : Nat) (b : ABlk) : St :=
  St.rec (motive := fun _ => Nat → ABlk → St) (fun tm n df h nx ro wl mw id b => seqF (putF h id (some b)) fun h' => St.mk tm n df h' nx ro wl (ife (Nat.ble mw id) mw id)) st id b
noncomputable def cellsF (a : AV) : Option (List AV) := a.onAgg (fun l => some l) (a.onAny (fun _ => none) (a.onIfq (fun _ _ _ => none) (some [a])))

noncomputable def ocF (a : AV) : Bool :=
  AV.rec (motive_1 := fun _ => Bool) (motive_2 := fun _ => Unit) false (fun _ => true) true (fun _ _ => true) (fun _ _ _ => true) (fun _ _ => true) (fun _ => true) (fun _ _ => true) true (fun _ _ => true) true (fun _ _ _ _ _ => true) true (fun _ => true)
    (fun _ _ _ _ _ => true) (fun _ => true) true (fun _ _ _ => true) true (fun _ _ _ x y => and x y) (fun _ _ => true) (fun _ _ => false) (fun _ _ => false) () (fun _ _ _ _ => ()) a
noncomputable def allOcF (l : List AV) : Bool := List.rec true (fun a _ ih => ife (ocF a) ih false) l
noncomputable def memF (id : Nat) (l : List Nat) : Bool := List.rec false (fun a _ ih => ife (Nat.beq id a) true ih) l
noncomputable def canWF (st : St) (id : Nat) : Bool := ife (Nat.ble st.ro id) true (memF id st.wl)

noncomputable def runH (cx : Cx) (st : St) (o : CO) : Option Ret :=
  CO.rec (motive := fun _ => Cx → St → Option Ret)
    (fun _ _ _ _ => none) (fun _ _ _ _ _ _ => none) (fun _ _ _ _ _ => none) (fun _ _ _ _ _ => none) (fun _ _ _ _ => none) (fun _ _ _ _ _ _ => none) (fun _ _ _ _ _ _ => none)
    (fun op _ _ cx st => heapA cx st (ev st) (mkO op))
    (fun op agg size x cx st => ob (evC st x) fun a => a.onPtr (fun id off => ob (atF st.h id) fun b => b.onRow (fun _ cells _ _ _ _ => ob (loadF agg size off cells) fun v => some [(v, st)]) none) (heapA cx st (ev st) (mkO op)))
    (fun op size x y cx st => ob (evC st x) fun a => a.onPtr (fun id off => ob (evC st y) fun v => ob (cellsF v) fun vs =>
        ife (Nat.beq (lenF vs) size) (ife (canWF st id) (ife (allOcF vs) (ob (atF st.h id) fun b => b.onRow (fun et cells opn b0 fz sm => ife (Nat.ble fz off) (ob (overF cells off vs) fun c' => some [(undefA, putH st id (.row et c' opn b0 fz sm))]) none) none) none) none) none) (heapA cx st (ev st) (mkO op)))
    (fun _ k args cx st => ob (evLC st args) fun as => cx.cf k as st)
    (fun op cx st => heapA cx st (ev st) (mkO op)) o cx st

noncomputable def runC (cx : Cx) (st : St) (o : CO) : Option Ret := Option.rec (motive := fun _ => Option Ret) (runH cx st o) (fun a => some [(a, st)]) (runP cx.D st o)

noncomputable def guardC (st : St) (g : CG) : Option Bool :=
  CG.rec (motive := fun _ => St → Option Bool) (fun _ => some true) (fun _ => some false)
    (fun d p want st => ife (Nat.blt d st.n) ((getU (getP st.tm p)).onBool (fun b => some (Bool.rec (not want) want b)) ((getU (getP st.tm p)).onTup (fun l => List.rec (some false) (fun _ _ _ => none) l) none)) none) g st

noncomputable def putC (st : St) (d : CD) (a : AV) : Option St :=
  CD.rec (motive := fun _ => St → AV → Option St) (fun st _ => some st)
    (fun d p st a => St.rec (motive := fun _ => Nat → Pth → AV → Option St) (fun tm n df h nx ro wl mw d p a => ife (Nat.blt d n) (seqF (setP p tm (some a)) fun t => some (St.mk t n df h nx ro wl mw)) none) st d p a) d st a

noncomputable def mapPut (d : CD) (rets : Ret) : Option (List St) :=
  List.rec (motive := fun _ => CD → Option (List St)) (fun _ => some [])
    (fun x _ ih d => Prod.rec (motive := fun _ => CD → (CD → Option (List St)) → Option (List St)) (fun a st d ih => ob (putC st d a) fun s => ob (ih d) fun l => some (s :: l)) x d ih) rets d

noncomputable def doC (cx : Cx) (st : St) (i : CI) : Option (List St) :=
  ob (guardC st i.g) fun g => ife g (ob (runC cx st i.o) fun rets => mapPut i.d rets) (ob (putC st i.d undefA) fun s => some [s])

noncomputable def bindStF (l : List St) (g : St → Option (List St)) : Option (List St) :=
  List.rec (motive := fun _ => (St → Option (List St)) → Option (List St)) (fun _ => some [])
    (fun s t ih g => List.rec (motive := fun _ => St → (St → Option (List St)) → ((St → Option (List St)) → Option (List St)) → Option (List St)) (fun s g _ => g s)
      (fun _ _ _ s g ih => ob (g s) fun a => ob (ih g) fun b => some (a ++ b)) t s g ih) l g

noncomputable def plainC (cx : Cx) (l : List CI) (st : St) : Option (List St) :=
  List.rec (motive := fun _ => St → Option (List St)) (fun st => some [st]) (fun i _ ih st => ob (doC cx st i) fun ss => bindStF ss ih) l st

/-- the one outcome -/
noncomputable def one1 {β : Type} (r : Ret) (f : AV → St → Option β) : Option β :=
  List.rec (motive := fun _ => Option β) none (fun x t _ => List.rec (motive := fun _ => Option β) (Prod.rec (motive := fun _ => Option β) f x) (fun _ _ _ => none) t) r

noncomputable def readerF (st : St) : St := St.rec (fun tm n df h nx _ _ _ => St.mk tm n df h nx nx [] nx) st
noncomputable def unreadF (st s : St) : St := St.rec (motive := fun _ => St → St) (fun tm n df h nx _ _ _ st => St.mk tm n df h nx st.ro st.wl st.mw) s st

noncomputable def drawC (cx : Cx) (l : List CI) (st : St) : Option St :=
  List.rec (motive := fun _ => Nat → Nat → Nat → St → Option St) (fun _ _ _ st => some st)
    (fun x _ ih i H W st => ob (guardC st x.g) fun g => ife g
        (Option.rec (motive := fun _ => Option St)
          (ife x.fr
            (ife (sub H x.a) (ob (runH cx st x.o) fun r => one1 r fun v s1 => ob (putC s1 x.d v) fun s => ih (Nat.succ i) (Nat.lor H (Nat.pow 2 i)) (Nat.lor W (Nat.pow 2 i)) s) none)
            (ife (sub W x.a) (ob (runH cx (readerF st) x.o) fun r => one1 r fun v s1 => ife (Nat.ble st.nx s1.mw) (ob (putC (unreadF st s1) x.d v) fun s => ih (Nat.succ i) (Nat.lor H (Nat.pow 2 i)) W s) none) none))
          (fun v => ob (putC st x.d v) fun s => ih (Nat.succ i) H W s) (runP cx.D st x.o))
        (ob (putC st x.d undefA) fun s => ih (Nat.succ i) H W s)) l 0 0 0 st

noncomputable def normAll (ss : List St) : Out := List.rec (motive := fun _ => Out) [] (fun s _ ih => (Jump.normal, s) :: ih) ss

noncomputable def bindOutF (o : Out) (g : St → Option Out) : Option Out :=
  List.rec (motive := fun _ => (St → Option Out) → Option Out) (fun _ => some [])
    (fun x t ih g => Prod.rec (motive := fun _ => Out → ((St → Option Out) → Option Out) → (St → Option Out) → Option Out)
      (fun j s t ih g => Jump.rec (motive := fun _ => St → Out → ((St → Option Out) → Option Out) → (St → Option Out) → Option Out)
        (fun s t ih g => List.rec (motive := fun _ => St → ((St → Option Out) → Option Out) → (St → Option Out) → Option Out) (fun s _ g => g s) (fun _ _ _ s ih g => ob (g s) fun a => ob (ih g) fun b => some (a ++ b)) t s ih g)
        (fun i s _ ih g => ob (ih g) fun b => some ((.exit i, s) :: b))
        (fun s _ ih g => ob (ih g) fun b => some ((.ret, s) :: b)) j s t ih g) x t ih g) o g

noncomputable def iterF (body : St → Option Out) (n : Nat) (st : St) : Option Out :=
  Nat.rec (motive := fun _ => St → Option Out) (fun _ => none) (fun _ ih st => ob (body st) fun o => bindOutF o ih) n st

noncomputable def outBlockF (id : Nat) (o : Out) : Out :=
  List.rec (motive := fun _ => Nat → Out) (fun _ => []) (fun x _ ih id => Prod.rec (motive := fun _ => Nat → (Nat → Out) → Out)
    (fun j s id ih => Jump.rec (motive := fun _ => St → Nat → (Nat → Out) → Out) (fun s id ih => (.normal, s) :: ih id) (fun i s id ih => ife (Nat.beq i id) (.normal, s) (.exit i, s) :: ih id) (fun s id ih => (.ret, s) :: ih id) j s id ih) x id ih) o id

/-- on a known or an unknown condition -/
noncomputable def onCond (c : Option AV) (b : Bool → Option Out) (u : Unit → Option Out) : Option Out :=
  Option.rec (motive := fun _ => (Bool → Option Out) → (Unit → Option Out) → Option Out) (fun _ _ => none)
    (fun a b u => AV.casesOn (motive_1 := fun _ => (Bool → Option Out) → (Unit → Option Out) → Option Out) a
      (fun _ _ => none) (fun t b _ => b t) (fun _ u => u ()) (fun _ _ _ _ => none) (fun _ _ _ _ _ => none) (fun _ _ _ _ => none) (fun _ _ _ => none) (fun _ _ _ _ => none)
      (fun _ _ => none) (fun _ _ _ _ => none) (fun _ _ => none) (fun _ _ _ _ _ _ _ => none) (fun _ _ => none) (fun _ _ _ => none) (fun _ _ _ _ _ => none) (fun _ _ _ => none) (fun _ _ => none) (fun _ _ _ _ => none) (fun _ _ => none)
      (fun _ _ _ _ _ => none) (fun _ _ _ _ => none) (fun _ _ _ => none) (fun _ _ _ => none) b u) c b u


/-- what code needs of its surroundings -/
structure XC where
  cx : Cx
  rng : Operand → Array Tmp → Code → Code → St → Option Out
  fuel : Nat

noncomputable def execC (x : XC) (c : CC) (st : St) : Option Out :=
  CC.rec (motive := fun _ => XC → St → Option Out)
    (fun _ st => some [(.normal, st)])
    (fun l x st => ob (plainC x.cx l st) fun ss => some (normAll ss))
    (fun l x st => ob (drawC x.cx l st) fun s => some [(.normal, s)])
    (fun _ _ iha ihb x st => ob (iha x st) fun o => bindOutF o (ihb x))
    (fun c _ _ iha ihb x st => onCond (evC st c) (fun t => ife t (iha x st) (ihb x st)) fun _ => ob (iha x st) fun oa => ob (ihb x st) fun ob' => some (oa ++ ob'))
    (fun id _ ih x st => ob (ih x st) fun o => some (outBlockF id o))
    (fun _ ih x st => iterF (ih x) x.fuel st)
    (fun g ps asg body x st => x.rng g ps asg body st)
    (fun id _ st => some [(.exit id, st)])
    (fun _ ih x st => ih x st)
    (fun _ st => some [(.ret, st)])
    (fun _ _ => none) c x st

/-! ### functions made ready -/
inductive CR where
  | t (x : CX)
  | slow (r : ResultVar)

structure CF where
  nt : Nat
  res : List CR
  body : CC

def compR : ResultVar → CR
  | .tmp t => .t (compX (.tmp t))
  | r => .slow r

def compF (D : Ty) (ext : FuncId → Nat) (fn : Func) : Option CF :=
  match fn.body with
  | none => none
  | some c => some ⟨fn.ntmps, fn.results.toList.map compR, comp D ext c⟩

noncomputable def tmOfF (l : List AV) (i : Nat) (t : T AV) : T AV :=
  List.rec (motive := fun _ => Nat → T AV → T AV) (fun _ t => t) (fun a _ ih i t => seqF (putF t i (some a)) (ih (Nat.succ i))) l i t
noncomputable def entryF (args : List AV) (nt : Nat) (st : St) : St :=
  St.rec (motive := fun _ => List AV → Nat → St) (fun _ _ _ h nx ro wl _ args nt => seqF (tmOfF args 0 .leaf) fun tm => St.mk tm (Nat.add (lenF args) (Nat.sub nt (lenF args))) [] h nx ro wl nx) st args nt

noncomputable def resVF (D : Ty) (st : St) (r : CR) : Option AV := CR.rec (motive := fun _ => Ty → St → Option AV) (fun x _ st => evC st x) (fun r D st => resV D st r) r D st
noncomputable def resLF (D : Ty) (st : St) (l : List CR) : Option (List AV) := List.rec (some []) (fun r _ ih => ob (resVF D st r) fun a => ob ih fun as => some (a :: as)) l
noncomputable def resF (D : Ty) (rs : List CR) (st : St) : Option AV :=
  ob (resLF D st rs) fun l => List.rec (motive := fun _ => Option AV) (some (.tup [])) (fun a t _ => List.rec (motive := fun _ => Option AV) (some a) (fun _ _ _ => some (.tup l)) t) l

noncomputable def closeF (df : List Nat) (st : St) : Option St := List.rec (motive := fun _ => List Nat → Option St) (fun _ => some st) (fun _ _ _ df => closeDf df st) df df

noncomputable def freeF (a : AV) : Bool :=
  AV.rec (motive_1 := fun _ => Bool) (motive_2 := fun _ => Bool) true (fun _ => true) true (fun _ _ => true) (fun _ _ _ => true) (fun _ _ => true) (fun _ => true) (fun _ _ => true) true (fun _ _ => false) true (fun _ _ _ _ _ => false) true (fun _ => false)
    (fun _ _ _ _ _ => false) (fun _ => false) true (fun _ _ x => x) true (fun _ _ _ x y => and x y) (fun _ _ => false) (fun _ x => x) (fun _ x => x) true (fun _ _ x y => and x y) a

noncomputable def backF (a : AV) (s st : St) : AV × St :=
  St.rec (motive := fun _ => AV → St → AV × St) (fun _ _ _ h nx _ _ mw a st => St.rec (motive := fun _ => AV → T ABlk → Nat → Nat → St → AV × St)
    (fun tm n df _ nx0 ro wl mw0 a h nx mw st => ife (and (freeF a) (Nat.ble nx0 mw)) (a, st) (a, St.mk tm n df h nx ro wl (ife (Nat.ble mw0 mw) mw0 mw))) st a h nx mw st) s a st

noncomputable def finishF (D : Ty) (rs : List CR) (st : St) (x : Jump × St) : Option (AV × St) :=
  Prod.rec (motive := fun _ => Option (AV × St)) (fun j s => Jump.rec (motive := fun _ => Option (AV × St))
    (ob (closeF s.df s) fun s => ob (resF D rs s) fun a => some (backF a s st)) (fun _ => none) (ob (closeF s.df s) fun s => ob (resF D rs s) fun a => some (backF a s st)) j) x

noncomputable def mapF (f : Jump × St → Option (AV × St)) (l : Out) : Option Ret := List.rec (some []) (fun x _ ih => ob (f x) fun y => ob ih fun r => some (y :: r)) l

noncomputable def Tb.cxC (g : Tb) (cf : FuncId → List AV → St → Option Ret) (yl : Nat → List AV → St → Option Ret) : Cx := ⟨atF g.D, g.bt, g.ext, cf, yl⟩
noncomputable def Tb.xC (g : Tb) (cf : FuncId → List AV → St → Option Ret) (yl : Nat → List AV → St → Option Ret) (f : FuncId) : XC := ⟨g.cxC cf yl, fun gg ps a b st => rngA cf f gg ps a b st, g.fuel⟩
noncomputable def Tb.xrC (g : Tb) (cf : FuncId → List AV → St → Option Ret) (yl : Nat → List AV → St → Option Ret) : XC := ⟨g.cxC cf yl, fun _ _ _ _ _ => none, g.fuel⟩

noncomputable def Tb.bodyC (g : Tb) (FC : T CF) (cf : FuncId → List AV → St → Option Ret) (yl : Nat → List AV → St → Option Ret) (k : FuncId) (args : List AV) (st : St) : Option Ret :=
  ob (atF FC k) fun fn => ob (execC (g.xC cf yl k) fn.body (entryF args fn.nt st)) fun outs => mapF (finishF (atF g.D) fn.res st) outs

noncomputable def Tb.bothC (g : Tb) (FC : T CF) (d : Nat) : (FuncId → List AV → St → Option Ret) × (Nat → List AV → St → Option Ret) :=
  Nat.rec (fun _ _ _ => none, fun _ _ _ => none)
    (fun _ b => (fun k args st => ife (Nat.beq k g.more) (ife (moreArgs args) (some [(.aint .u32 0 4294967295, st)]) none)
      (ife (Nat.beq k g.ins) (callSl (g.bodyC FC b.1 b.2) k args st) (g.bodyC FC b.1 b.2 k args st)),
    fun id args st => roundA (fun _ c st => execC (g.xrC b.1 b.2) (comp g.D.at_ g.ext c) st) id args st)) d

end Go.Proofs.YtdkcihleblbkaaaGreatDoor.Eng
