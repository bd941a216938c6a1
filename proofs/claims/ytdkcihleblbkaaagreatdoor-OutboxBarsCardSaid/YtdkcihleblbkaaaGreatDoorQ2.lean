/- A verified symbolic executor, part Q2: the quick run is the run: tries, operands, operations. No project text. -/
import Derived.Test.YtdkcihleblbkaaaGreatDoorQ1
namespace Go.Proofs.YtdkcihleblbkaaaGreatDoor.Eng
set_option linter.unusedVariables false
set_option linter.unusedSimpArgs false
set_option linter.unusedSectionVars false
open Go
set_option linter.unusedSimpArgs false
set_option linter.unusedVariables false

theorem ife_eq {α : Type _} (b : Bool) (x y : α) : ife b x y = bif b then x else y := by cases b <;> rfl
theorem ob_none {α β : Type _} (f : α → Option β) : ob none f = none := rfl
theorem ob_some {α β : Type _} (a : α) (f : α → Option β) : ob (some a) f = f a := rfl
theorem ob_eq {α β : Type _} (x : Option α) (f : α → Option β) : ob x f = match x with | none => none | some a => f a := by cases x <;> rfl

theorem getF_eq {α : Type} : ∀ (t : T α) (n : Nat), getF t n = t.get n
  | .leaf, n => rfl
  | .node l v r, n => by
    show ife (Nat.beq n 1) v (ife (Nat.beq (Nat.mod n 2) 0) (getF l (Nat.div n 2)) (getF r (Nat.div n 2))) = _
    rw [getF_eq l, getF_eq r]
    simp only [T.get]
    cases Nat.beq n 1 <;> cases Nat.beq (Nat.mod n 2) 0 <;> rfl
theorem atF_eq {α : Type} (t : T α) (i : Nat) : atF t i = t.at_ i := getF_eq t (i + 1)

theorem seqF_eq {α β : Type} (t : T α) (k : T α → β) : seqF t k = k t := by cases t <;> rfl

theorem getP_eq {α : Type} : ∀ (f n : Nat) (t : T α), 1 ≤ n → n ≤ f → getP t (pth f n) = t.get n
  | 0, n, t, h1, h2 => by omega
  | f + 1, n, t, h1, h2 => by
    simp only [pth]
    cases h : Nat.beq n 1 with
    | true => simp only [cond_true]; cases t with | leaf => rfl | node l v r => simp only [T.get, h, cond_true]; rfl
    | false =>
      have hn : n ≠ 1 := fun e => by subst e; simp at h
      have hd : Nat.div n 2 = n / 2 := rfl
      simp only [cond_false]
      cases hm : Nat.beq (Nat.mod n 2) 0 with
      | true =>
        simp only [cond_true]
        cases t with
        | leaf => rfl
        | node l v r =>
          show getP l (pth f (Nat.div n 2)) = _
          rw [getP_eq f _ l (by rw [hd]; omega) (by rw [hd]; omega)]
          simp only [T.get, h, hm, cond_true, cond_false]
      | false =>
        simp only [cond_false]
        cases t with
        | leaf => rfl
        | node l v r =>
          show getP r (pth f (Nat.div n 2)) = _
          rw [getP_eq f _ r (by rw [hd]; omega) (by rw [hd]; omega)]
          simp only [T.get, h, hm, cond_true, cond_false]

theorem setP_eq {α : Type} : ∀ (f n : Nat) (t : T α) (x : Option α), 1 ≤ n → n ≤ f → setP (pth f n) t x = T.set f t n x
  | 0, n, t, x, h1, h2 => by omega
  | f + 1, n, t, x, h1, h2 => by
    simp only [pth]
    cases h : Nat.beq n 1 with
    | true => simp only [cond_true]; cases t <;> simp only [T.set, h, cond_true] <;> rfl
    | false =>
      have hn : n ≠ 1 := fun e => by subst e; simp at h
      have hd : Nat.div n 2 = n / 2 := rfl
      simp only [cond_false]
      cases hm : Nat.beq (Nat.mod n 2) 0 with
      | true =>
        simp only [cond_true]
        cases t with
        | leaf =>
          show seqF (setP (pth f (Nat.div n 2)) .leaf x) (fun l => T.node l none .leaf) = _
          rw [seqF_eq, setP_eq f _ _ _ (by rw [hd]; omega) (by rw [hd]; omega)]
          simp only [T.set, h, hm, cond_true, cond_false, T.seq_eq]
        | node l v r =>
          show seqF (setP (pth f (Nat.div n 2)) l x) (fun l' => T.node l' v r) = _
          rw [seqF_eq, setP_eq f _ _ _ (by rw [hd]; omega) (by rw [hd]; omega)]
          simp only [T.set, h, hm, cond_true, cond_false, T.seq_eq]
      | false =>
        simp only [cond_false]
        cases t with
        | leaf =>
          show seqF (setP (pth f (Nat.div n 2)) .leaf x) (fun r => T.node .leaf none r) = _
          rw [seqF_eq, setP_eq f _ _ _ (by rw [hd]; omega) (by rw [hd]; omega)]
          simp only [T.set, h, hm, cond_true, cond_false, T.seq_eq]
        | node l v r =>
          show seqF (setP (pth f (Nat.div n 2)) r x) (fun r' => T.node l v r') = _
          rw [seqF_eq, setP_eq f _ _ _ (by rw [hd]; omega) (by rw [hd]; omega)]
          simp only [T.set, h, hm, cond_true, cond_false, T.seq_eq]

theorem getP_at {α : Type} (t : T α) (i : Nat) : getP t (pthOf i) = t.at_ i := getP_eq _ _ t (by omega) (Nat.le_refl _)
theorem setP_put {α : Type} (t : T α) (i : Nat) (x : Option α) : setP (pthOf i) t x = t.put i x := setP_eq _ _ t x (by omega) (Nat.le_refl _)
theorem putF_eq {α : Type} (t : T α) (i : Nat) (x : Option α) : putF t i x = t.put i x := setP_put t i x

theorem getU_eq (x : Option AV) : getU x = x.getD undefA := by cases x <;> rfl

theorem evC_eq (st : St) (x : Operand) : evC st (compX x) = ev st x := by
  cases x with
  | tmp t =>
    show ife (Nat.blt t st.n) (some (getU (getP st.tm (pthOf t)))) none = _
    rw [ife_eq, getP_at, getU_eq]; rfl
  | const v =>
    simp only [compX, ev]
    cases ofVal v <;> rfl
  | global g => rfl
  | func f => rfl

theorem onBool_eq {β : Type} (a : AV) (f : Bool → β) (z : β) : a.onBool f z = match a with | .bool b => f b | _ => z := by cases a <;> rfl
theorem onInt_eq {β : Type} (a : AV) (f : IntKind → Int → β) (z : β) : a.onInt f z = match a with | .int k n => f k n | _ => z := by cases a <;> rfl
theorem onStr_eq {β : Type} (a : AV) (f : List Nat → β) (z : β) : a.onStr f z = match a with | .str s => f s | _ => z := by cases a <;> rfl
theorem onPtr_eq {β : Type} (a : AV) (f : Nat → Nat → β) (z : β) : a.onPtr f z = match a with | .ptr i o => f i o | _ => z := by cases a <;> rfl
theorem onSl_eq {β : Type} (a : AV) (f : Nat → Nat → Nat → Option Nat → Nat → β) (z : β) : a.onSl f z = match a with | .sl a b c d e => f a b c d e | _ => z := by cases a <;> rfl
theorem onAgg_eq {β : Type} (a : AV) (f : List AV → β) (z : β) : a.onAgg f z = match a with | .agg l => f l | _ => z := by cases a <;> rfl
theorem onTup_eq {β : Type} (a : AV) (f : List AV → β) (z : β) : a.onTup f z = match a with | .tup l => f l | _ => z := by cases a <;> rfl
theorem onNat_eq {β : Type} (x : Int) (f : Nat → β) (z : β) : onNat x f z = match x with | .ofNat n => f n | .negSucc _ => z := by cases x <;> rfl
theorem onRow_eq {β : Type} (b : ABlk) (f : TypeId → List AV → Bool → Bool → Nat → Bool → β) (z : β) : b.onRow f z = match b with | .row a b c d e g => f a b c d e g | _ => z := by cases b <;> rfl

theorem nthF_eq : ∀ (l : List AV) (n : Nat), nthF l n = l[n]?
  | [], n => by simp [nthF]
  | a :: l, 0 => rfl
  | a :: l, n + 1 => by rw [List.getElem?_cons_succ, ← nthF_eq l n]; rfl

theorem takeF_eq : ∀ (n : Nat) (l : List AV), takeF n l = takeN n l
  | 0, l => rfl
  | n + 1, [] => rfl
  | n + 1, a :: l => by
    show ob (takeF n l) (fun r => some (a :: r)) = _
    rw [takeF_eq n l]
    simp only [takeN]
    cases takeN n l <;> rfl

theorem dropF_eq : ∀ (n : Nat) (l : List AV), dropF n l = l.drop n
  | 0, l => rfl
  | n + 1, [] => by simp [dropF]
  | n + 1, a :: l => by rw [List.drop_succ_cons, ← dropF_eq n l]; rfl

theorem cutF_eq (cs : List AV) (off n : Nat) : cutF cs off n = cut cs off n := by unfold cutF cut; rw [takeF_eq, dropF_eq]

theorem overF_eq : ∀ (cs : List AV) (n : Nat) (vs : List AV), overF cs n vs = over cs n vs
  | [], 0, [] => rfl
  | [], 0, _ :: _ => rfl
  | [], n + 1, _ => rfl
  | c :: cs, 0, [] => rfl
  | c :: cs, 0, v :: vs => by
    show ob (overF cs 0 vs) (fun r => some (v :: r)) = _
    rw [overF_eq cs 0 vs]
    simp only [over]
    cases over cs 0 vs <;> rfl
  | c :: cs, n + 1, vs => by
    show ob (overF cs n vs) (fun r => some (c :: r)) = _
    rw [overF_eq cs n vs]
    simp only [over]
    cases over cs n vs <;> rfl

theorem lenF_eq {α : Type} : ∀ (l : List α), lenF l = l.length
  | [] => rfl
  | a :: l => by rw [List.length_cons, ← lenF_eq l]; rfl

theorem evLC_eq (st : St) : ∀ (l : List Operand), evLC st (l.map compX) = evL (ev st) l
  | [] => rfl
  | x :: l => by
    show ob (evC st (compX x)) (fun a => ob (evLC st (l.map compX)) fun r => some (a :: r)) = _
    rw [evC_eq, evLC_eq st l]
    simp only [evL]
    cases ev st x <;> cases evL (ev st) l <;> rfl

theorem cellsF_eq (a : AV) : cellsF a = cellsA a := by cases a <;> rfl

theorem ocF_eq : ∀ (a : AV), ocF a = a.oc
  | .ifq j a b => by show and (ocF a) (ocF b) = _; rw [ocF_eq a, ocF_eq b]; rfl
  | .any => rfl | .bool _ => rfl | .ubool => rfl | .int _ _ => rfl | .aint _ _ _ => rfl | .intq _ _ => rfl | .str _ => rfl | .astr _ _ => rfl | .ptr0 => rfl | .ptr _ _ => rfl | .sl0 => rfl | .sl _ _ _ _ _ => rfl
  | .map0 => rfl | .map _ => rfl | .fn _ _ _ => rfl | .yld _ => rfl | .fn0 => rfl | .ifc _ _ => rfl | .ifc0 => rfl | .ptrq _ _ => rfl | .agg _ => rfl | .tup _ => rfl

theorem allOcF_eq : ∀ (l : List AV), allOcF l = allOc l
  | [] => rfl
  | a :: l => by
    show ife (ocF a) (allOcF l) false = _
    rw [ocF_eq, allOcF_eq l]
    simp only [allOc]
    cases a.oc <;> rfl

theorem memF_eq (id : Nat) : ∀ (l : List Nat), memF id l = l.contains id
  | [] => rfl
  | a :: l => by
    show ife (Nat.beq id a) true (memF id l) = _
    rw [memF_eq id l, List.contains_cons]
    have : (id == a) = Nat.beq id a := by
      cases h : Nat.beq id a with
      | true => have := Nat.eq_of_beq_eq_true h; simp [this]
      | false => have : id ≠ a := fun e => by subst e; simp at h
                 simp [this]
    rw [this]
    cases Nat.beq id a <;> rfl

theorem canWF_eq (st : St) (id : Nat) : canWF st id = st.canW id := by
  unfold canWF St.canW
  rw [memF_eq]
  cases Nat.ble st.ro id <;> rfl

mutual
theorem freeF_eq : ∀ (a : AV), freeF a = a.free
  | .ifq j a b => by show and (freeF a) (freeF b) = _; rw [freeF_eq a, freeF_eq b]; rfl
  | .ifc t a => by show freeF a = _; rw [freeF_eq a]; rfl
  | .agg l => freeFL_eq l
  | .tup l => freeFL_eq l
  | .any => rfl | .bool _ => rfl | .ubool => rfl | .int _ _ => rfl | .aint _ _ _ => rfl | .intq _ _ => rfl | .str _ => rfl | .astr _ _ => rfl | .ptr0 => rfl | .ptr _ _ => rfl | .sl0 => rfl | .sl _ _ _ _ _ => rfl
  | .map0 => rfl | .map _ => rfl | .fn _ _ _ => rfl | .yld _ => rfl | .fn0 => rfl | .ifc0 => rfl | .ptrq _ _ => rfl
theorem freeFL_eq : ∀ (l : List AV), freeF (.agg l) = freeL l
  | [] => rfl
  | a :: l => by
    show and (freeF a) (freeF (.agg l)) = _
    rw [freeF_eq a, freeFL_eq l]; rfl
end

theorem limF_eq (k : IntKind) : limF k = lim k := by cases k <;> rfl
theorem kNum_eq (k k' : IntKind) : Nat.beq (kNum k) (kNum k') = decide (k = k') := by cases k <;> cases k' <;> rfl

theorem putH_eq (st : St) (id : Nat) (b : ABlk) : putH st id b = st.turn id b := by
  cases st with
  | mk tm n df h nx ro wl mw =>
    show seqF (putF h id (some b)) (fun h' => St.mk tm n df h' nx ro wl (ife (Nat.ble mw id) mw id)) = _
    rw [seqF_eq, putF_eq, ife_eq]
    simp only [St.turn]
    congr 1
    cases hb : Nat.ble mw id with
    | true => simp only [cond_true]; rw [Nat.ble_eq] at hb; omega
    | false =>
      have : ¬ mw ≤ id := by rw [← Nat.ble_eq, hb]; simp
      simp only [cond_false]; omega

/-! ### numbers -/
theorem wrapN_eq (k : IntKind) (m : Nat) : wrapN k m = .int k (wrapF k (Int.ofNat m)) := by
  unfold wrapN
  rw [ife_eq, limF_eq]
  cases h : Nat.blt m (lim k) with
  | true => simp only [cond_true]; unfold wrapF; simp only [inR, h, cond_true]
  | false => simp

theorem ofInt_mod (k : IntKind) (m : Nat) : (BitVec.ofInt k.bits (Int.ofNat m)).toNat = m % modF k := by
  have h1 : (BitVec.ofInt k.bits (Int.ofNat m)).toNat = m % 2 ^ k.bits := by
    rw [show (Int.ofNat m) = ((m : Nat) : Int) from rfl]
    simp only [BitVec.toNat_ofInt]
    omega
  rw [h1]
  cases k <;> rfl

theorem bitF_eq (k : IntKind) : bitF k = k.bits := by cases k <;> rfl

theorem min_ife (n b : Nat) : ife (Nat.ble n b) n b = min n b := by
  rw [ife_eq]
  cases h : Nat.ble n b with
  | true => simp only [cond_true]; rw [Nat.ble_eq] at h; omega
  | false =>
    have : ¬ n ≤ b := by rw [← Nat.ble_eq, h]; simp
    simp only [cond_false]; omega

theorem cmp_nat (b : BinOp) (m n : Nat) (r : Bool) (h : (match b with | .eql => Nat.beq m n | .neq => !(Nat.beq m n) | .lss => Nat.blt m n | .leq => Nat.ble m n | .gtr => Nat.blt n m | .geq => Nat.ble n m | _ => false) = r) (hc : isCmp b = true) :
    cmpA b (Int.ofNat m) (Int.ofNat m) (Int.ofNat n) (Int.ofNat n) = .bool r := by
  subst h
  have e1 : (Int.ofNat m) = ((m : Nat) : Int) := rfl
  have e2 : (Int.ofNat n) = ((n : Nat) : Int) := rfl
  cases b <;> simp [isCmp] at hc <;> simp only [cmpA, e1, e2]
  all_goals
    rcases Nat.lt_trichotomy m n with h | h | h
    · have h1 : Nat.blt m n = true := by rw [Nat.blt_eq]; exact h
      have h2 : Nat.ble m n = true := by rw [Nat.ble_eq]; omega
      have h3 : Nat.blt n m = false := by rw [← Bool.not_eq_true, Nat.blt_eq]; omega
      have h4 : Nat.ble n m = false := by rw [← Bool.not_eq_true, Nat.ble_eq]; omega
      have h5 : Nat.beq m n = false := beqf (by omega)
      have i1 : (m : Int) < n := by omega
      have i2 : (m : Int) ≤ n := by omega
      have i3 : ¬ (n : Int) < m := by omega
      have i4 : ¬ (n : Int) ≤ m := by omega
      have i5 : ¬ (m : Int) = n := by omega
      simp [h1, h2, h3, h4, h5, i1, i2, i3, i4, i5]
    · subst h
      have h1 : Nat.blt m m = false := by rw [← Bool.not_eq_true, Nat.blt_eq]; omega
      have h2 : Nat.ble m m = true := by rw [Nat.ble_eq]; omega
      simp [h1, h2]
    · have h1 : Nat.blt n m = true := by rw [Nat.blt_eq]; exact h
      have h2 : Nat.ble n m = true := by rw [Nat.ble_eq]; omega
      have h3 : Nat.blt m n = false := by rw [← Bool.not_eq_true, Nat.blt_eq]; omega
      have h4 : Nat.ble m n = false := by rw [← Bool.not_eq_true, Nat.ble_eq]; omega
      have h5 : Nat.beq m n = false := beqf (by omega)
      have i1 : (n : Int) < m := by omega
      have i2 : (n : Int) ≤ m := by omega
      have i3 : ¬ (m : Int) < n := by omega
      have i4 : ¬ (m : Int) ≤ n := by omega
      have i5 : ¬ (m : Int) = n := by omega
      simp [h1, h2, h3, h4, h5, i1, i2, i3, i4, i5]

theorem natBin_eq (b : BinOp) (k k' : IntKind) (m n : Nat) (h : isShift b = true ∨ k = k') : natBin b k m n (intBinA b (.int k (Int.ofNat m)) (.int k' (Int.ofNat n))) = intBinA b (.int k (Int.ofNat m)) (.int k' (Int.ofNat n)) := by
  have hk : isShift b = false → decide (k = k') = true := fun hs => by
    rcases h with h | h
    · rw [hs] at h; cases h
    · simp [h]
  cases b
  case add => show some (wrapN k (Nat.add m n)) = _; simp only [intBinA, hk rfl, cond_true, knownA, wrapN_eq]; rfl
  case sub =>
    show ife (Nat.ble n m) (some (wrapN k (Nat.sub m n))) _ = _
    rw [ife_eq]
    cases hb : Nat.ble n m with
    | false => rfl
    | true =>
      rw [Nat.ble_eq] at hb
      simp only [cond_true, intBinA, hk rfl, knownA, wrapN_eq]
      have : (Int.ofNat m) - (Int.ofNat n) = Int.ofNat (Nat.sub m n) := by
        show (m : Int) - (n : Int) = ((m - n : Nat) : Int)
        omega
      rw [this]
  case mul => show some (wrapN k (Nat.mul m n)) = _; simp only [intBinA, hk rfl, cond_true, knownA, wrapN_eq]; rfl
  case quo => rfl
  case rem => rfl
  case and =>
    show some (wrapN k (Nat.land (Nat.mod m (modF k)) (Nat.mod n (modF k)))) = _
    simp only [intBinA, hk rfl, cond_true, knownA, isCmp, cond_false, bitsA, wrapN_eq, BitVec.toNat_and, ofInt_mod]
    rfl
  case or =>
    show some (wrapN k (Nat.lor (Nat.mod m (modF k)) (Nat.mod n (modF k)))) = _
    simp only [intBinA, hk rfl, cond_true, knownA, isCmp, cond_false, bitsA, wrapN_eq, BitVec.toNat_or, ofInt_mod]
    rfl
  case xor =>
    show some (wrapN k (Nat.xor (Nat.mod m (modF k)) (Nat.mod n (modF k)))) = _
    simp only [intBinA, hk rfl, cond_true, knownA, isCmp, cond_false, bitsA, wrapN_eq, BitVec.toNat_xor, ofInt_mod]
    rfl
  case andNot => rfl
  case shl =>
    show some (wrapN k (Nat.mul m (Nat.pow 2 (ife (Nat.ble n (bitF k)) n (bitF k))))) = _
    have hn : decide ((Int.ofNat n) < 0) = false := by simp
    simp only [intBinA, shiftA, hn, cond_false, wrapN_eq, min_ife, bitF_eq]
    rfl
  case shr =>
    show some (AV.int k (Int.ofNat (Nat.div m (Nat.pow 2 (ife (Nat.ble n (bitF k)) n (bitF k)))))) = _
    have hn : decide ((Int.ofNat n) < 0) = false := by simp
    simp only [intBinA, shiftA, hn, cond_false, min_ife, bitF_eq]
    have : ∀ d : Nat, (Int.ofNat m).fdiv (d : Int) = Int.ofNat (m / d) := fun d => by
      rw [Int.fdiv_eq_ediv_of_nonneg _ (by omega)]; rfl
    rw [this]
    rfl
  case eql => simp only [intBinA, hk rfl, cond_true, knownA, isCmp]; exact (congrArg some (cmp_nat .eql m n _ rfl rfl)).symm
  case neq => simp only [intBinA, hk rfl, cond_true, knownA, isCmp]; exact (congrArg some (cmp_nat .neq m n _ rfl rfl)).symm
  case lss => simp only [intBinA, hk rfl, cond_true, knownA, isCmp]; exact (congrArg some (cmp_nat .lss m n _ rfl rfl)).symm
  case leq => simp only [intBinA, hk rfl, cond_true, knownA, isCmp]; exact (congrArg some (cmp_nat .leq m n _ rfl rfl)).symm
  case gtr => simp only [intBinA, hk rfl, cond_true, knownA, isCmp]; exact (congrArg some (cmp_nat .gtr m n _ rfl rfl)).symm
  case geq => simp only [intBinA, hk rfl, cond_true, knownA, isCmp]; exact (congrArg some (cmp_nat .geq m n _ rfl rfl)).symm

end Go.Proofs.YtdkcihleblbkaaaGreatDoor.Eng
