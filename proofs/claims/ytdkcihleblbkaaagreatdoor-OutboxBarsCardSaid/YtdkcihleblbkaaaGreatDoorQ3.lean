/- A verified symbolic executor, part Q3: the quick run is the run: operations, regions, code, functions. No project text. -/
import Derived.Test.YtdkcihleblbkaaaGreatDoorQ2
namespace Go.Proofs.YtdkcihleblbkaaaGreatDoor.Eng
set_option linter.unusedVariables false
set_option linter.unusedSimpArgs false
set_option linter.unusedSectionVars false
open Go
set_option linter.unusedSimpArgs false
set_option linter.unusedVariables false

theorem pureA_mkO (D : Ty) (e : Operand → Option AV) (o : Oper) : pureA D e o = pureA D e (mkO o.op) := rfl
theorem heapA_mkO (cx : Cx) (st : St) (e : Operand → Option AV) (o : Oper) : heapA cx st e o = heapA cx st e (mkO o.op) := rfl

theorem runP_slow (D : Ty) (st : St) (op : Op) : runP D st (.slow op) = pureA D (ev st) (mkO op) := rfl
theorem runH_slow (cx : Cx) (st : St) (op : Op) : runH cx st (.slow op) = heapA cx st (ev st) (mkO op) := rfl

theorem runP_eq (D : Ty) (ext : FuncId → Nat) (st : St) (op : Op) : runP D st (compO D ext op) = pureA D (ev st) (mkO op) := by
  cases op
  case move x => show evC st (compX x) = _; rw [evC_eq]; rfl
  case assign x => show evC st (compX x) = _; rw [evC_eq]; rfl
  case pick c a b =>
    show ob (evC st (compX c)) (fun v => v.onBool (fun t => ife t (evC st (compX a)) (evC st (compX b))) none) = _
    rw [evC_eq, evC_eq, evC_eq, ob_eq]
    simp only [pureA, mkO]
    cases ev st c with
    | none => rfl
    | some v =>
      simp only [onBool_eq]
      cases v <;> first | rfl | (rename_i t; cases t <;> rfl)
  case extract x i =>
    show ob (evC st (compX x)) (fun a => a.onTup (fun l => nthF l i) none) = _
    rw [evC_eq, ob_eq]
    simp only [pureA, mkO]
    cases ev st x with
    | none => rfl
    | some v =>
      simp only [onTup_eq]
      cases v <;> first | rfl | (simp only [nthF_eq])
  case nilCheck x =>
    show ob (evC st (compX x)) (fun a => a.onPtr (fun i off => some (AV.ptr i off)) (pureA D (ev st) (mkO (.nilCheck x)))) = _
    rw [evC_eq, ob_eq]
    cases hx : ev st x with
    | none => simp only [pureA, mkO, hx]
    | some v =>
      simp only [onPtr_eq]
      cases v <;> first | rfl | (simp only [pureA, mkO, hx])
  case binOp b t x y ty =>
    show ob (evC st (compX x)) (fun a => a.onInt (fun k m => ob (evC st (compX y)) fun c => c.onInt (fun k' n => onNat m (fun m => onNat n (fun n =>
        ife (Bool.rec (Nat.beq (kNum k) (kNum k')) true (isShift b)) (natBin b k m n (pureA D (ev st) (mkO (.binOp b t x y ty)))) (pureA D (ev st) (mkO (.binOp b t x y ty)))) (pureA D (ev st) (mkO (.binOp b t x y ty)))) (pureA D (ev st) (mkO (.binOp b t x y ty)))) (pureA D (ev st) (mkO (.binOp b t x y ty)))) (pureA D (ev st) (mkO (.binOp b t x y ty)))) = _
    rw [evC_eq, evC_eq, ob_eq]
    cases hx : ev st x with
    | none => simp only [pureA, mkO, hx]
    | some a =>
      simp only [onInt_eq]
      cases a <;> first | rfl | skip
      rename_i k m
      simp only [ob_eq]
      cases hy : ev st y with
      | none => simp only [pureA, mkO, hx, hy]
      | some c =>
        simp only [onInt_eq]
        cases c <;> first | rfl | skip
        rename_i k' n
        cases m with
        | negSucc m => rfl
        | ofNat m =>
          cases n with
          | negSucc n => rfl
          | ofNat n =>
            simp only [onNat_eq, ife_eq]
            have hp : pureA D (ev st) (mkO (.binOp b t x y ty)) = intBinA b (.int k (Int.ofNat m)) (.int k' (Int.ofNat n)) := by
              simp only [pureA, mkO, hx, hy, binA, bnd]
            rw [hp]
            cases hc : (bif isShift b then true else Nat.beq (kNum k) (kNum k')) with
            | false => rfl
            | true =>
              simp only [cond_true]
              refine natBin_eq b k k' m n ?_
              cases hs : isShift b with
              | true => exact .inl rfl
              | false =>
                rw [hs] at hc
                have hc' : Nat.beq (kNum k) (kNum k') = true := by simpa using hc
                rw [kNum_eq, decide_eq_true_eq] at hc'
                exact .inr hc'
  case fieldAddr t x f =>
    simp only [compO]
    split
    · rename_i fs sz by_ z eq ht
      split
      · rename_i ft off hf
        split
        · rename_i ti hti
          cases hb : Nat.blt 0 ti.size with
          | false => rfl
          | true =>
            simp only [cond_true]
            show ob (evC st (compX x)) (fun a => a.onPtr (fun i o' => some (AV.ptr i (Nat.add o' off))) none) = _
            rw [evC_eq, ob_eq]
            cases hx : ev st x with
            | none => simp only [pureA, mkO, hx, ht]
            | some v =>
              simp only [onPtr_eq]
              cases v <;> simp only [pureA, mkO, hx, ht, hf, hti, hb, cond_true] <;> rfl
        · rfl
      · rfl
    · rfl
  case indexAddr t x ix =>
    simp only [compO]
    split
    · rename_i el sz by_ z eq ht
      split
      · rename_i ti hti
        show ob (evC st (compX x)) (fun a => a.onSl (fun id off len _ _ => ob (evC st (compX ix)) fun c => c.onInt (fun _ n => onNat n (fun n => ife (Nat.blt n len) (some (AV.ptr id (Nat.add off (Nat.mul n ti.size)))) none) (pureA D (ev st) (mkO (.indexAddr t x ix)))) (pureA D (ev st) (mkO (.indexAddr t x ix)))) (pureA D (ev st) (mkO (.indexAddr t x ix)))) = _
        rw [evC_eq, evC_eq, ob_eq]
        cases hx : ev st x with
        | none => simp only [pureA, mkO, hx, ht]
        | some v =>
          simp only [onSl_eq]
          cases v <;> first | rfl | skip
          rename_i id off len cap es
          simp only [ob_eq]
          cases hi : ev st ix with
          | none => simp only [pureA, mkO, hx, hi, ht]
          | some c =>
            simp only [onInt_eq]
            cases c <;> first | rfl | skip
            rename_i k n
            cases n with
            | negSucc n => rfl
            | ofNat n =>
              simp only [onNat_eq, ife_eq, pureA, mkO, hx, hi, ht, hti]
              rfl
      · rfl
    · rfl
  case load t x =>
    simp only [compO]
    split <;> rfl
  case store t x y =>
    simp only [compO]
    split <;> rfl
  case call c =>
    simp only [compO]
    split
    · rename_i x t hc ha ht
      split
      · rename_i sz by_ z eq htd
        show ob (evC st (compX x)) (fun a => ife true (a.onStr (fun s => some (AV.int .i64 (Int.ofNat (lenF s)))) (pureA D (ev st) (mkO (.call c)))) (a.onSl (fun _ _ n _ _ => some (AV.int .i64 (Int.ofNat n))) (pureA D (ev st) (mkO (.call c))))) = _
        rw [evC_eq, ob_eq]
        cases hx : ev st x with
        | none => simp only [pureA, mkO, hc, ha, ht, hx, htd]
        | some v =>
          simp only [ife_eq, cond_true, onStr_eq]
          cases v <;> first | rfl | (simp only [pureA, mkO, hc, ha, ht, hx, htd, lenF_eq]; rfl)
      · rename_i el sz by_ z eq htd
        show ob (evC st (compX x)) (fun a => ife false (a.onStr (fun s => some (AV.int .i64 (Int.ofNat (lenF s)))) (pureA D (ev st) (mkO (.call c)))) (a.onSl (fun _ _ n _ _ => some (AV.int .i64 (Int.ofNat n))) (pureA D (ev st) (mkO (.call c))))) = _
        rw [evC_eq, ob_eq]
        cases hx : ev st x with
        | none => simp only [pureA, mkO, hc, ha, ht, hx, htd]
        | some v =>
          simp only [ife_eq, cond_false, onSl_eq]
          cases v <;> first | rfl | (simp only [pureA, mkO, hc, ha, ht, hx, htd]; rfl)
      · rfl
    · rename_i x1 x2 x3 k hc
      cases hk : Nat.beq (ext k) 0 with
      | false => rfl
      | true =>
        simp only [cond_true]
        show none = _
        simp only [pureA, mkO, hc]
    · rfl
  all_goals rfl

theorem runH_eq (cx : Cx) (st : St) (op : Op) (hp : pureA cx.D (ev st) (mkO op) = none) : runH cx st (compO cx.D cx.ext op) = heapA cx st (ev st) (mkO op) := by
  cases op
  case fieldAddr t x f =>
    simp only [compO]
    split
    · split
      · split
        · rename_i ti hti
          cases Nat.blt 0 ti.size <;> rfl
        · rfl
      · rfl
    · rfl
  case indexAddr t x ix =>
    simp only [compO]
    split
    · split <;> rfl
    · rfl
  case load t x =>
    simp only [compO]
    split
    · rename_i ti ht
      show ob (evC st (compX x)) (fun a => a.onPtr (fun id off => ob (atF st.h id) fun b => b.onRow (fun _ cells _ _ _ _ => ob (loadF ti.cls.agg ti.size off cells) fun v => some [(v, st)]) none) (heapA cx st (ev st) (mkO (.load t x)))) = _
      rw [evC_eq, ob_eq]
      cases hx : ev st x with
      | none => simp only [heapA, mkO, hx]
      | some a =>
        simp only [onPtr_eq]
        cases a <;> first | rfl | skip
        rename_i id off
        simp only [heapA, mkO, hx, loadA, ht, atF_eq]
        simp only [ob_eq]
        cases hat : st.h.at_ id with
        | none => rfl
        | some b =>
          simp only [onRow_eq]
          cases b <;> first | rfl | skip
          rename_i et cells opn b0 fz sm
          simp only [loadF, ife_eq, cutF_eq, nthF_eq]
          cases ti.cls.agg with
          | true => simp only [cond_true, ob_eq]; cases cut cells off ti.size <;> rfl
          | false => simp only [cond_false]; cases cells[off]? <;> rfl
    · rfl
  case store t x y =>
    simp only [compO]
    split
    · rename_i ti ht
      show ob (evC st (compX x)) (fun a => a.onPtr (fun id off => ob (evC st (compX y)) fun v => ob (cellsF v) fun vs =>
        ife (Nat.beq (lenF vs) ti.size) (ife (canWF st id) (ife (allOcF vs) (ob (atF st.h id) fun b => b.onRow (fun et cells opn b0 fz sm => ife (Nat.ble fz off) (ob (overF cells off vs) fun c' => some [(undefA, putH st id (.row et c' opn b0 fz sm))]) none) none) none) none) none) (heapA cx st (ev st) (mkO (.store t x y)))) = _
      rw [evC_eq, evC_eq, ob_eq]
      cases hx : ev st x with
      | none => simp only [heapA, mkO, hx]
      | some a =>
        simp only [onPtr_eq]
        cases a <;> first | rfl | skip
        rename_i id off
        simp only [heapA, mkO, hx]
        simp only [ob_eq]
        cases hy : ev st y with
        | none => rfl
        | some v =>
          simp only [cellsF_eq, storeA, ht]
          cases hc : cellsA v with
          | none => rfl
          | some vs =>
            simp only [ife_eq, lenF_eq, canWF_eq, allOcF_eq, atF_eq]
            cases Nat.beq vs.length ti.size with
            | false => rfl
            | true =>
              cases st.canW id with
              | false => rfl
              | true =>
                cases allOc vs with
                | false => rfl
                | true =>
                  simp only [cond_true, Bool.and_self]
                  cases hat : st.h.at_ id with
                  | none => rfl
                  | some b =>
                    simp only [onRow_eq]
                    cases b <;> first | rfl | skip
                    rename_i et cells opn b0 fz sm
                    simp only [ife_eq, overF_eq]
                    cases Nat.ble fz off with
                    | false => rfl
                    | true =>
                      simp only [cond_true]
                      cases over cells off vs with
                      | none => rfl
                      | some c' => simp only [putH_eq]; rfl
    · rfl
  case call c =>
    simp only [compO]
    split
    · rename_i x t hc ha ht
      split <;> rfl
    · rename_i x1 x2 x3 k hc
      cases hk : Nat.beq (cx.ext k) 0 with
      | false => rfl
      | true =>
        simp only [cond_true]
        have hk0 := Nat.eq_of_beq_eq_true hk
        show ob (evLC st (c.args.toList.map compX)) (fun as => cx.cf k as st) = _
        rw [evLC_eq]
        simp only [heapA, mkO, hc]
        cases hev : evL (ev st) c.args.toList with
        | none => rfl
        | some as =>
          simp only [ob_some]
          have he : ev st (.func k) = some (.fn k [] []) := rfl
          simp only [he, hk0, List.nil_append, List.append_nil]
    · rfl
  all_goals first | rfl | skip

theorem runC_eq (cx : Cx) (st : St) (o : Oper) : runC cx st (compO cx.D cx.ext o.op) = opA cx st (ev st) o := by
  unfold runC opA
  rw [runP_eq, ← pureA_mkO]
  cases hp : pureA cx.D (ev st) o with
  | some a => rfl
  | none => simp only; rw [runH_eq cx st o.op (by rw [← pureA_mkO]; exact hp), ← heapA_mkO]

theorem guardC_eq (ops : Array Oper) (st : St) (o : Oper) : guardC st (compG ops o) = guardA ops st o := by
  unfold compG guardA
  cases hg : o.guard with
  | none => rfl
  | some g =>
    obtain ⟨j, want⟩ := g
    simp only
    cases hd : (ops[j]?).bind (·.dst) with
    | none => rfl
    | some d =>
      simp only
      show ife (Nat.blt d st.n) ((getU (getP st.tm (pthOf d))).onBool (fun b => some (Bool.rec (not want) want b)) ((getU (getP st.tm (pthOf d))).onTup (fun l => List.rec (some false) (fun _ _ _ => none) l) none)) none = _
      rw [ife_eq, getP_at, getU_eq, onBool_eq, onTup_eq]
      cases (st.tm.at_ d).getD undefA <;> first | rfl | skip
      · rename_i b; cases b <;> cases want <;> rfl
      · rename_i l; cases l <;> rfl

theorem putC_eq (st : St) (d : Option Nat) (a : AV) : putC st (compD d) a = st.putD d a := by
  cases d with
  | none => rfl
  | some d =>
    cases st with
    | mk tm n df h nx ro wl mw =>
      show ife (Nat.blt d n) (seqF (setP (pthOf d) tm (some a)) fun t => some (St.mk t n df h nx ro wl mw)) none = _
      rw [ife_eq, seqF_eq, setP_put]
      simp only [St.putD, T.seq_eq]

theorem mapPut_eq (d : Option Nat) : ∀ (rets : Ret), mapPut (compD d) rets = rets.mapM fun x => x.2.putD d x.1
  | [] => rfl
  | (a, st) :: l => by
    show ob (putC st (compD d) a) (fun s => ob (mapPut (compD d) l) fun l => some (s :: l)) = _
    rw [putC_eq, mapPut_eq d l, List.mapM_cons]
    simp only [ob_eq, Option.bind_eq_bind, Option.pure_def]
    cases st.putD d a with
    | none => rfl
    | some s => cases (l.mapM fun x => x.2.putD d x.1) <;> rfl

theorem doC_eq (cx : Cx) (ops : Array Oper) (st : St) (x : Oper × Nat × Bool) : doC cx st (compI cx.D cx.ext ops x) = doOp (opA cx) ops st x.1 := by
  show ob (guardC st (compG ops x.1)) (fun g => ife g (ob (runC cx st (compO cx.D cx.ext x.1.op)) fun rets => mapPut (compD x.1.dst) rets) (ob (putC st (compD x.1.dst) undefA) fun s => some [s])) = _
  rw [guardC_eq, putC_eq, runC_eq, ob_eq]
  unfold doOp
  cases guardA ops st x.1 with
  | none => rfl
  | some b =>
    cases b with
    | false => simp only [ife_eq, cond_false, ob_eq]; cases st.putD x.1.dst undefA <;> rfl
    | true =>
      simp only [ife_eq, cond_true, ob_eq]
      cases opA cx st (ev st) x.1 with
      | none => rfl
      | some rets => exact mapPut_eq _ rets

theorem bindStF_eq (g : St → Option (List St)) : ∀ (l : List St), bindStF l g = bindSt l g
  | [] => rfl
  | [s] => by
    show g s = _
    simp only [bindSt]
    cases g s with
    | none => rfl
    | some a => simp
  | s :: t :: l => by
    show ob (g s) (fun a => ob (bindStF (t :: l) g) fun b => some (a ++ b)) = _
    rw [bindStF_eq g (t :: l), ob_eq]
    conv => rhs; unfold bindSt
    cases g s with
    | none => rfl
    | some a => simp only [ob_eq]; cases bindSt (t :: l) g <;> rfl

theorem plainC_eq (cx : Cx) (ops : Array Oper) : ∀ (l : List Oper) (st : St), plainC cx (l.map fun o => compI cx.D cx.ext ops (o, 0, false)) st = plainOps (opA cx) ops l st
  | [], st => rfl
  | o :: l, st => by
    show ob (doC cx st (compI cx.D cx.ext ops (o, 0, false))) (fun ss => bindStF ss (plainC cx (l.map fun o => compI cx.D cx.ext ops (o, 0, false)))) = _
    rw [doC_eq, ob_eq]
    simp only [plainOps]
    cases doOp (opA cx) ops st o with
    | none => rfl
    | some ss =>
      simp only [bindStF_eq]
      congr 1
      funext st
      exact plainC_eq cx ops l st

theorem one1_eq {β : Type} (r : Ret) (f : AV → St → Option β) : one1 r f = match r with | [(v, s)] => f v s | _ => none := by
  cases r with
  | nil => rfl
  | cons x t => cases t <;> rfl

theorem readerF_eq (st : St) : readerF st = reader st := by cases st; rfl
theorem unreadF_eq (st s : St) : unreadF st s = unread st s := by cases s; rfl

/-- the quick run of a region that draws, from any place in it -/
noncomputable def drawFrom (cx : Cx) (l : List CI) (i H W : Nat) (st : St) : Option St :=
  List.rec (motive := fun _ => Nat → Nat → Nat → St → Option St) (fun _ _ _ st => some st)
    (fun x _ ih i H W st => ob (guardC st x.g) fun g => ife g
        (Option.rec (motive := fun _ => Option St)
          (ife x.fr
            (ife (sub H x.a) (ob (runH cx st x.o) fun r => one1 r fun v s1 => ob (putC s1 x.d v) fun s => ih (Nat.succ i) (Nat.lor H (Nat.pow 2 i)) (Nat.lor W (Nat.pow 2 i)) s) none)
            (ife (sub W x.a) (ob (runH cx (readerF st) x.o) fun r => one1 r fun v s1 => ife (Nat.ble st.nx s1.mw) (ob (putC (unreadF st s1) x.d v) fun s => ih (Nat.succ i) (Nat.lor H (Nat.pow 2 i)) W s) none) none))
          (fun v => ob (putC st x.d v) fun s => ih (Nat.succ i) H W s) (runP cx.D st x.o))
        (ob (putC st x.d undefA) fun s => ih (Nat.succ i) H W s)) l i H W st

theorem drawFrom_eq (cx : Cx) (ops : Array Oper) : ∀ (l : List (Oper × Nat × Bool)) (i H W : Nat) (st : St), drawFrom cx (l.map (compI cx.D cx.ext ops)) i H W st = runD (pureA cx.D) (heapA cx) ops l i H W st
  | [], i, H, W, st => rfl
  | (o, a, fr) :: l, i, H, W, st => by
    show ob (guardC st (compG ops o)) (fun g => ife g
        (Option.rec (motive := fun _ => Option St)
          (ife fr
            (ife (sub H a) (ob (runH cx st (compO cx.D cx.ext o.op)) fun r => one1 r fun v s1 => ob (putC s1 (compD o.dst) v) fun s => drawFrom cx (l.map (compI cx.D cx.ext ops)) (Nat.succ i) (Nat.lor H (Nat.pow 2 i)) (Nat.lor W (Nat.pow 2 i)) s) none)
            (ife (sub W a) (ob (runH cx (readerF st) (compO cx.D cx.ext o.op)) fun r => one1 r fun v s1 => ife (Nat.ble st.nx s1.mw) (ob (putC (unreadF st s1) (compD o.dst) v) fun s => drawFrom cx (l.map (compI cx.D cx.ext ops)) (Nat.succ i) (Nat.lor H (Nat.pow 2 i)) W s) none) none))
          (fun v => ob (putC st (compD o.dst) v) fun s => drawFrom cx (l.map (compI cx.D cx.ext ops)) (Nat.succ i) H W s) (runP cx.D st (compO cx.D cx.ext o.op)))
        (ob (putC st (compD o.dst) undefA) fun s => drawFrom cx (l.map (compI cx.D cx.ext ops)) (Nat.succ i) H W s)) = _
    have ih := drawFrom_eq cx ops l
    simp only [runD, stepD]
    rw [guardC_eq, ob_eq]
    cases guardA ops st o with
    | none => rfl
    | some b =>
      cases b with
      | false =>
        simp only [ife_eq, cond_false, putC_eq, ob_eq]
        cases st.putD o.dst undefA with
        | none => rfl
        | some s => exact ih _ _ _ _
      | true =>
        simp only [ife_eq, cond_true]
        rw [runP_eq, ← pureA_mkO]
        cases hp : pureA cx.D (ev st) o with
        | some v =>
          simp only [putC_eq, ob_eq]
          cases st.putD o.dst v with
          | none => rfl
          | some s => exact ih _ _ _ _
        | none =>
          have hp' : pureA cx.D (ev st) (mkO o.op) = none := by rw [← pureA_mkO]; exact hp
          have hevr : ev (reader st) = ev st := rfl
          simp only
          cases fr with
          | true =>
            simp only [cond_true]
            cases sub H a with
            | false => rfl
            | true =>
              simp only [cond_true]
              rw [runH_eq cx st o.op hp', ← heapA_mkO, ob_eq]
              cases heapA cx st (ev st) o with
              | none => rfl
              | some r =>
                simp only [one1_eq]
                match r with
                | [] => rfl
                | [(v, s1)] =>
                  simp only [putC_eq, ob_eq]
                  cases s1.putD o.dst v with
                  | none => rfl
                  | some s => exact ih _ _ _ _
                | _ :: _ :: _ => rfl
          | false =>
            simp only [cond_false]
            cases sub W a with
            | false => rfl
            | true =>
              simp only [cond_true]
              rw [readerF_eq, runH_eq cx (reader st) o.op (by rw [hevr]; exact hp'), ← heapA_mkO, ob_eq, hevr]
              cases heapA cx (reader st) (ev st) o with
              | none => rfl
              | some r =>
                simp only [one1_eq]
                match r with
                | [] => rfl
                | [(v, s1)] =>
                  simp only
                  cases Nat.ble st.nx s1.mw with
                  | false => rfl
                  | true =>
                    simp only [cond_true, unreadF_eq, putC_eq, ob_eq]
                    cases (unread st s1).putD o.dst v with
                    | none => rfl
                    | some s => exact ih _ _ _ _
                | _ :: _ :: _ => rfl

theorem drawC_eq (cx : Cx) (ops : Array Oper) (l : List (Oper × Nat × Bool)) (st : St) : drawC cx (l.map (compI cx.D cx.ext ops)) st = runD (pureA cx.D) (heapA cx) ops l 0 0 0 st := drawFrom_eq cx ops l 0 0 0 st

/-! ### code -/
theorem normAll_eq : ∀ (ss : List St), normAll ss = ss.map fun s => (Jump.normal, s)
  | [] => rfl
  | s :: l => by rw [List.map_cons, ← normAll_eq l]; rfl

theorem bindOutF_eq (g : St → Option Out) : ∀ (o : Out), bindOutF o g = bindOut o g
  | [] => rfl
  | (.normal, s) :: [] => by
    show g s = _
    simp only [bindOut]
    cases g s with
    | none => rfl
    | some a => simp
  | (.normal, s) :: x :: l => by
    show ob (g s) (fun a => ob (bindOutF (x :: l) g) fun b => some (a ++ b)) = _
    rw [bindOutF_eq g (x :: l), ob_eq]
    conv => rhs; unfold bindOut
    cases g s with
    | none => rfl
    | some a => simp only [ob_eq]; cases bindOut (x :: l) g <;> rfl
  | (.exit i, s) :: l => by
    show ob (bindOutF l g) (fun b => some ((.exit i, s) :: b)) = _
    rw [bindOutF_eq g l, ob_eq]
    simp only [bindOut]
    cases bindOut l g <;> rfl
  | (.ret, s) :: l => by
    show ob (bindOutF l g) (fun b => some ((.ret, s) :: b)) = _
    rw [bindOutF_eq g l, ob_eq]
    simp only [bindOut]
    cases bindOut l g <;> rfl

theorem iterF_eq (body : St → Option Out) : ∀ (n : Nat) (st : St), iterF body n st = iter body n st
  | 0, st => rfl
  | n + 1, st => by
    show ob (body st) (fun o => bindOutF o (iterF body n)) = _
    rw [ob_eq]
    simp only [iter]
    cases body st with
    | none => rfl
    | some o =>
      simp only [bindOutF_eq]
      congr 1
      funext st
      exact iterF_eq body n st

theorem outBlockF_eq (id : Nat) : ∀ (o : Out), outBlockF id o = outBlock id o
  | [] => rfl
  | (.normal, s) :: l => by
    show (.normal, s) :: outBlockF id l = _
    rw [outBlockF_eq id l]; rfl
  | (.exit i, s) :: l => by
    show ife (Nat.beq i id) (.normal, s) (.exit i, s) :: outBlockF id l = _
    rw [outBlockF_eq id l, ife_eq]; rfl
  | (.ret, s) :: l => by
    show (.ret, s) :: outBlockF id l = _
    rw [outBlockF_eq id l]; rfl

theorem onCond_eq (c : Option AV) (b : Bool → Option Out) (u : Unit → Option Out) : onCond c b u = match c with | some (.bool t) => b t | some .ubool => u () | _ => none := by
  cases c with
  | none => rfl
  | some a => cases a <;> rfl

theorem execC_eq {x : X} {y : XC} (h1 : x.op = opA y.cx) (h2 : x.drawn = fun ops st => drawnA (pureA y.cx.D) (heapA y.cx) ops st) (h3 : x.rng = y.rng) (h4 : x.fuel = y.fuel) :
    ∀ (c : Code) (st : St), execC y (comp y.cx.D y.cx.ext c) st = exec x c st := by
  intro c
  induction c with
  | skip => intro st; rfl
  | label l => intro st; rfl
  | region id ops draw =>
    intro st
    cases draw with
    | true =>
      simp only [comp, cond_true, exec, h2, drawnA]
      cases tags ops with
      | none => rfl
      | some l =>
        show ob (drawC y.cx (l.map (compI y.cx.D y.cx.ext ops)) st) (fun s => some [(Jump.normal, s)]) = _
        rw [drawC_eq, ob_eq]
        dsimp only
        cases runD (pureA y.cx.D) (heapA y.cx) ops l 0 0 0 st <;> rfl
    | false =>
      simp only [comp, cond_false, exec, h1]
      show ob (plainC y.cx (ops.toList.map fun o => compI y.cx.D y.cx.ext ops (o, 0, false)) st) (fun ss => some (normAll ss)) = _
      rw [plainC_eq, ob_eq]
      cases plainOps (opA y.cx) ops ops.toList st with
      | none => rfl
      | some ss => simp only [normAll_eq]
  | seq a b iha ihb =>
    intro st
    show ob (execC y (comp y.cx.D y.cx.ext a) st) (fun o => bindOutF o (execC y (comp y.cx.D y.cx.ext b))) = _
    rw [iha, ob_eq]
    simp only [exec]
    cases exec x a st with
    | none => rfl
    | some o =>
      simp only [bindOutF_eq]
      congr 1
      funext s
      exact ihb s
  | cond c a b iha ihb =>
    intro st
    show onCond (evC st (compX c)) (fun t => ife t (execC y (comp y.cx.D y.cx.ext a) st) (execC y (comp y.cx.D y.cx.ext b) st)) (fun _ => ob (execC y (comp y.cx.D y.cx.ext a) st) fun oa => ob (execC y (comp y.cx.D y.cx.ext b) st) fun ob' => some (oa ++ ob')) = _
    rw [evC_eq, iha, ihb, onCond_eq]
    simp only [exec]
    cases ev st c with
    | none => rfl
    | some v =>
      cases v <;> first | rfl | skip
      · simp only [ife_eq]
      · simp only [ob_eq]
        cases exec x a st <;> cases exec x b st <;> rfl
  | block id b ih =>
    intro st
    show ob (execC y (comp y.cx.D y.cx.ext b) st) (fun o => some (outBlockF id o)) = _
    rw [ih, ob_eq]
    simp only [exec]
    cases exec x b st with
    | none => rfl
    | some o => simp only [outBlockF_eq]
  | loop b ih =>
    intro st
    show iterF (execC y (comp y.cx.D y.cx.ext b)) y.fuel st = _
    rw [iterF_eq, ← h4]
    simp only [exec]
    congr 1
    funext s
    exact ih s
  | rangeFunc g ps asg body _ _ =>
    intro st
    show y.rng g ps asg body st = _
    rw [← h3]; rfl
  | exit id => intro st; rfl
  | scope b ih => intro st; exact ih st
  | goto l => intro st; rfl
  | ret => intro st; rfl
  | refuse w => intro st; rfl

/-! ### functions -/
theorem tmOfF_eq : ∀ (l : List AV) (i : Nat) (t : T AV), tmOfF l i t = tmOf l i t
  | [], i, t => rfl
  | a :: l, i, t => by
    show seqF (putF t i (some a)) (tmOfF l (i + 1)) = _
    rw [seqF_eq, putF_eq]
    simp only [tmOf, T.seq_eq]
    exact tmOfF_eq l (i + 1) _

theorem entryF_eq (args : List AV) (nt : Nat) (st : St) : entryF args nt st = entrySt args nt st := by
  cases st with
  | mk tm n df h nx ro wl mw =>
    show seqF (tmOfF args 0 .leaf) (fun tm => St.mk tm (Nat.add (lenF args) (Nat.sub nt (lenF args))) [] h nx ro wl nx) = _
    rw [seqF_eq, tmOfF_eq, lenF_eq]
    rfl

theorem resVF_eq (D : Ty) (st : St) (r : ResultVar) : resVF D st (compR r) = resV D st r := by
  cases r with
  | tmp t => show evC st (compX (.tmp t)) = _; rw [evC_eq]; rfl
  | cell a t => rfl

theorem resLF_eq (D : Ty) (st : St) : ∀ (l : List ResultVar), resLF D st (l.map compR) = resL D st l
  | [] => rfl
  | r :: l => by
    show ob (resVF D st (compR r)) (fun a => ob (resLF D st (l.map compR)) fun as => some (a :: as)) = _
    rw [resVF_eq, resLF_eq D st l, ob_eq]
    simp only [resL]
    cases resV D st r with
    | none => rfl
    | some a => simp only [ob_eq]; cases resL D st l <;> rfl

theorem resF_eq (D : Ty) (rs : List ResultVar) (st : St) : resF D (rs.map compR) st = resA D rs st := by
  unfold resF resA
  rw [resLF_eq, ob_eq]
  cases resL D st rs with
  | none => rfl
  | some l => match l with
    | [] => rfl
    | [a] => rfl
    | a :: b :: l => rfl

theorem closeF_eq (df : List Nat) (st : St) : closeF df st = closeDf df st := by cases df <;> rfl

theorem backF_eq (a : AV) (s st : St) : backF a s st = bif a.free && Nat.ble st.nx s.mw then (a, st) else (a, { st with h := s.h, nx := s.nx, mw := min st.mw s.mw }) := by
  cases s with
  | mk tm n df h nx ro wl mw =>
    cases st with
    | mk tm0 n0 df0 h0 nx0 ro0 wl0 mw0 =>
      show ife (and (freeF a) (Nat.ble nx0 mw)) (a, St.mk tm0 n0 df0 h0 nx0 ro0 wl0 mw0) (a, St.mk tm0 n0 df0 h nx ro0 wl0 (ife (Nat.ble mw0 mw) mw0 mw)) = _
      rw [ife_eq, freeF_eq, min_ife]

theorem finishF_eq (D : Ty) (fn : Func) (st : St) (x : Jump × St) : finishF D (fn.results.toList.map compR) st x = finishCall (resA D) fn st x := by
  obtain ⟨j, s⟩ := x
  have key : ob (closeF s.df s) (fun s => ob (resF D (fn.results.toList.map compR) s) fun a => some (backF a s st)) =
      match closeDf s.df s with
      | none => none
      | some s => match resA D fn.results.toList s with
        | none => none
        | some a => bif a.free && Nat.ble st.nx s.mw then some (a, st) else some (a, { st with h := s.h, nx := s.nx, mw := min st.mw s.mw }) := by
    rw [closeF_eq, ob_eq]
    cases closeDf s.df s with
    | none => rfl
    | some s' =>
      simp only [resF_eq, ob_eq]
      cases resA D fn.results.toList s' with
      | none => rfl
      | some a =>
        simp only [backF_eq]
        cases (a.free && Nat.ble st.nx s'.mw) <;> rfl
  cases j with
  | normal => exact key
  | exit id => rfl
  | ret => exact key

theorem mapF_eq (f : Jump × St → Option (AV × St)) : ∀ (l : Out), mapF f l = l.mapM f
  | [] => rfl
  | x :: l => by
    show ob (f x) (fun y => ob (mapF f l) fun r => some (y :: r)) = _
    rw [mapF_eq f l, List.mapM_cons, ob_eq]
    simp only [Option.bind_eq_bind, Option.pure_def]
    cases f x with
    | none => rfl
    | some y => simp only [ob_eq]; cases l.mapM f <;> rfl

theorem bodyC_eq (g : Tb) (FC : T CF) (hFC : ∀ k, FC.at_ k = (g.F.at_ k).bind (compF g.D.at_ g.ext)) (cf : FuncId → List AV → St → Option Ret) (yl : Nat → List AV → St → Option Ret) (k : FuncId) (args : List AV) (st : St) : g.bodyC FC cf yl k args st = g.body cf yl k args st := by
  unfold Tb.bodyC Tb.body
  rw [atF_eq, hFC]
  have hD : atF g.D = g.D.at_ := by funext i; exact atF_eq _ _
  cases g.F.at_ k with
  | none => rfl
  | some fn =>
    simp only [Option.bind_some, compF]
    cases hb : fn.body with
    | none => rfl
    | some c =>
      simp only [ob_some]
      have hx := execC_eq (x := g.x cf yl k) (y := g.xC cf yl k) (by simp only [Tb.x, Tb.xC, Tb.cxC, Tb.cx, hD]) (by simp only [Tb.x, Tb.xC, Tb.cxC, Tb.cx, hD]) rfl rfl c (entryF args fn.ntmps st)
      have hcx : (g.xC cf yl k).cx.D = g.D.at_ := hD
      rw [hcx] at hx
      have hcx2 : (g.xC cf yl k).cx.ext = g.ext := rfl
      rw [hcx2] at hx
      show ob (execC (g.xC cf yl k) (comp g.D.at_ g.ext c) (entryF args fn.ntmps st)) (fun outs => mapF (finishF (atF g.D) (fn.results.toList.map compR) st) outs) = _
      rw [hx, entryF_eq, ob_eq]
      unfold runBody
      cases exec (g.x cf yl k) c (entrySt args fn.ntmps st) with
      | none => rfl
      | some outs =>
        simp only [mapF_eq, hD]
        congr 1
        funext x
        exact finishF_eq _ fn st x

theorem bothC_eq (g : Tb) (FC : T CF) (hFC : ∀ k, FC.at_ k = (g.F.at_ k).bind (compF g.D.at_ g.ext)) : ∀ d, g.bothC FC d = g.both d
  | 0 => rfl
  | d + 1 => by
    have ih := bothC_eq g FC hFC d
    have hD : atF g.D = g.D.at_ := by funext i; exact atF_eq _ _
    show ((fun k args st => ife (Nat.beq k g.more) (ife (moreArgs args) (some [(.aint .u32 0 4294967295, st)]) none)
      (ife (Nat.beq k g.ins) (callSl (g.bodyC FC (g.bothC FC d).1 (g.bothC FC d).2) k args st) (g.bodyC FC (g.bothC FC d).1 (g.bothC FC d).2 k args st)),
      fun id args st => roundA (fun _ c st => execC (g.xrC (g.bothC FC d).1 (g.bothC FC d).2) (comp g.D.at_ g.ext c) st) id args st) :
        (FuncId → List AV → St → Option Ret) × (Nat → List AV → St → Option Ret)) = _
    rw [ih]
    have hbody : g.bodyC FC (g.both d).1 (g.both d).2 = g.body (g.both d).1 (g.both d).2 := by funext k args st; exact bodyC_eq g FC hFC _ _ k args st
    rw [hbody]
    have hex : ∀ (c : Code) (st : St), execC (g.xrC (g.both d).1 (g.both d).2) (comp g.D.at_ g.ext c) st = exec (g.xr (g.both d).1 (g.both d).2) c st := by
      intro c st
      have hx := execC_eq (x := g.xr (g.both d).1 (g.both d).2) (y := g.xrC (g.both d).1 (g.both d).2) (by simp only [Tb.xr, Tb.xrC, Tb.cxC, Tb.cx, hD]) (by simp only [Tb.xr, Tb.xrC, Tb.cxC, Tb.cx, hD]) rfl rfl c st
      have hcx : (g.xrC (g.both d).1 (g.both d).2).cx.D = g.D.at_ := hD
      rw [hcx] at hx
      exact hx
    simp only [hex, ife_eq]
    rfl

end Go.Proofs.YtdkcihleblbkaaaGreatDoor.Eng
