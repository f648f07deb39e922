/- The abstract machine with its reckoning set apart: it is the same machine. -/
import Derived.Test.YtmkbnmjhkghdjaaH24
set_option linter.unusedVariables false
set_option linter.unusedSimpArgs false
namespace Go.Proofs.Ytmkbnmjhkghdjaa
open Go.RowKit

theorem binP_real : binP real = binV := by
  funext op x y
  cases x <;> cases y <;> cases op <;> first | rfl | (simp only [binP, binV, real, Bool.cond_decide])
theorem unP_real : unP real = unV := by
  funext op x
  cases x <;> cases op <;> rfl
theorem eqLeafP_real : eqLeafP real = eqLeaf := rfl
theorem eqFP_real (T : Ty) (q : Nat → Bool) (sub : Nat → List AV → List AV → Option Bool) : ∀ (fs : List (Nat × Nat)) (xs ys : List AV), eqAP.eqFP real T q sub fs xs ys = eqA.eqF T q sub fs xs ys
  | [], _, _ => rfl
  | (o, ft) :: fs, xs, ys => by
    unfold eqAP.eqFP eqA.eqF
    simp only [eqLeafP_real, eqFP_real T q sub fs xs ys]
    rfl
theorem eqAP_real (T : Ty) (q : Nat → Bool) : ∀ n, eqAP real T q n = eqA T q n
  | 0 => rfl
  | n + 1 => by
    funext t xs ys
    unfold eqAP eqA
    simp only [eqAP_real T q n, eqFP_real]
    rfl
theorem idxP_real : idxP real = idx? := rfl
theorem idxLeP_real : idxLeP real = idxLe? := rfl
theorem bndP_real : bndP real = bndA := rfl
theorem effBP_real : effBP real = effB := rfl
theorem bndsP_real : bndsP real = bnds := rfl
theorem sliceP_real : sliceP real = sliceA := rfl
theorem toDP_real : toDP real = toDV := rfl
theorem allDP_real (rd : Nat → Option AO) : ∀ l, allDP real rd l = allDV rd l
  | [] => rfl
  | x :: xs => by unfold allDP allDV; rw [toDP_real, allDP_real rd xs]; rfl
theorem loadP_real : loadP real = loadD := rfl
theorem and_ite (a b : Prop) [Decidable a] [Decidable b] {α : Type} (x y : α) : (if a ∧ b then x else y) = if a then (if b then x else y) else y := by
  by_cases h : a <;> by_cases k : b <;> simp [h, k]
theorem srcP_real : srcP real = srcA := by
  funext rd s x
  unfold srcP srcA
  simp only [real, Bool.cond_decide, and_ite]
  rfl
theorem newP_real : newP real = newA := by
  funext rd slot e s bytes m cells n old
  unfold newP newA
  simp only [real, Bool.cond_decide, and_ite]
theorem effAppendP_real : effAppendP real = effAppend := by
  funext rd slot e s bytes x cells m
  unfold effAppendP effAppend
  simp only [newP_real, and_ite]
  simp only [real, Bool.cond_decide]
  rfl
theorem livePt_eq (lk : Nat → Option AK) (r a : Nat) : livePt lk r a a = if liveK lk r = true then some (.ptr r a) else none := by
  unfold livePt liveK
  cases lk r with
  | none => rfl
  | some k => cases k <;> rfl
theorem nilP_real : nilP real = nilB := by
  funext lk x
  unfold nilP nilB
  simp only [real, Bool.cond_decide]
  simp only [Bool.cond_eq_ite]
  rfl
theorem effQP_real (T : Ty) (q : Nat → Bool) (lk : Nat → Option AK) (o : Oper) (ρ : Operand → AV) : effQP real T q lk o ρ = effQ T q lk o ρ := by
  unfold effQP effQ
  simp only [nilP_real, binP_real, unP_real, eqAP_real, idxP_real, sliceP_real, effBP_real]
  simp only [real, livePt_eq]
  simp only [Bool.cond_eq_ite]
  cases o.op <;> first | rfl | skip
theorem effHP_real (T : Ty) (rd : Nat → Option AO) (slot : Nat) (o : Oper) (ρ : Operand → AV) : effHP real T rd slot o ρ = effH T rd slot o ρ := by
  have e1 : allDP real rd = allDV rd := funext (allDP_real rd)
  unfold effHP effH
  simp only [e1, loadP_real, srcP_real, effAppendP_real]
  simp only [real, Bool.cond_decide, and_ite]
  simp only [Bool.cond_eq_ite]
  cases o.op <;> first | rfl | skip
theorem effP_real (T : Ty) (q : Nat → Bool) (rd : Nat → Option AO) (slot : Nat) (o : Oper) (ρ : Operand → AV) : effP real T q rd slot o ρ = eff T q rd slot o ρ := by
  unfold effP eff
  simp only [effQP_real, effHP_real]
  rfl
section
variable (p : Pr) (C : Cxt) (T : Ty) (GL : Nat → Option (List DV)) (q : Nat → Bool) (N base : Nat) (ops : Array Oper) (draw : Bool) (anc : List (List Nat))
def aopsP (K : SL → Prop) : List Nat → SL → List (Nat × Ef) → Prop
  | [], s, _ => K s
  | i :: is, s, log => match ops[i]? with
    | none => False
    | some o => match dstB N o.dst with
      | false => False
      | true => match wantedL ops s o with
        | none => False
        | some b => match b with
          | true => match callA (s.ev GL) o with
            | some (f, args) => ∃ v us rds, C.D f args rds v us s.rd ∧ (!draw || ncAll ops (anc.getD i []) o ⟨v, us, rds, [], chgs s.rd us⟩ log) = true ∧ aopsP K is (s.app o.dst v us) ((i, ⟨v, us, rds, [], chgs s.rd us⟩) :: log)
            | none => match effP p T q s.rd (base + i) o (s.ev GL) with
              | some f => match !draw || ncAll ops (anc.getD i []) o ⟨f.v, f.upd, f.rds, f.lvs, chgs s.rd f.upd⟩ log with
                | true => aopsP K is (s.app o.dst f.v f.upd) ((i, ⟨f.v, f.upd, f.rds, f.lvs, chgs s.rd f.upd⟩) :: log)
                | false => False
              | none => False
          | false => match !draw || ncAll ops (anc.getD i []) o skipEf log with
            | true => aopsP K is (s.put o.dst .undef) ((i, skipEf) :: log)
            | false => False
end
theorem aopsP_real {C : Cxt} {T : Ty} {GL : Nat → Option (List DV)} {q : Nat → Bool} {N base : Nat} {ops : Array Oper} {draw : Bool} {anc : List (List Nat)} {K : SL → Prop} : ∀ (is : List Nat) (s : SL) (log : List (Nat × Ef)), aopsP real C T GL q N base ops draw anc K is s log = aops C T GL q N base ops draw anc K is s log
  | [], s, log => rfl
  | i :: is, s, log => by
    unfold aopsP aops
    simp only [effP_real, aopsP_real is]
    rfl
section
variable (p : Pr) (C : Cxt) (T : Ty) (GL : Nat → Option (List DV)) (q : Nat → Bool) (N : Nat)
/-- Code, walked. -/
def acodeP : Code → (Exit → SL → Prop) → SL → Prop
  | .skip, Q, s => Q .normal s
  | .region id ops draw, Q, s => match !draw || backB ops with
    | true => aopsP p C T GL q N (slotBase id) ops draw (if draw then ancT ops ops.size else []) (fun s' => Q .normal s') (List.range ops.size) s []
    | false => False
  | .seq a b, Q, s => acodeP a (seqQ (fun s' => acodeP b Q s') Q) s
  | .cond c t e, Q, s => match s.ev GL c with
    | .d (.val (.bool b)) => match b with
      | true => acodeP t Q s
      | false => acodeP e Q s
    | .ab => acodeP t Q s ∧ acodeP e Q s
    | _ => False
  | .scope c, Q, s => acodeP c (scpQ Q) s
  | .block id c, Q, s => acodeP c (blkQ id Q) s
  | .exit id, Q, s => Q (.exit id) s
  | .ret, Q, s => Q .ret s
  | .label _, Q, s => Q .normal s
  | .loop c, Q, s => C.L (.loop c) Q s
  | _, _, _ => False
end
theorem acodeP_real {C : Cxt} {T : Ty} {GL : Nat → Option (List DV)} {q : Nat → Bool} {N : Nat} : ∀ (c : Code) (Q : Exit → SL → Prop) (s : SL), acodeP real C T GL q N c Q s = acode C T GL q N c Q s
  | .skip, Q, s => rfl
  | .region id ops draw, Q, s => by
    rw [acodeP, acode]
    simp only [aopsP_real]
    rfl
  | .seq a b, Q, s => by
    rw [acodeP, acode, acodeP_real a]
    simp only [acodeP_real b]
  | .cond c t e, Q, s => by
    rw [acodeP, acode]
    simp only [acodeP_real t, acodeP_real e]
    rfl
  | .block id c, Q, s => by rw [acodeP, acode, acodeP_real c]
  | .exit id, Q, s => rfl
  | .ret, Q, s => rfl
  | .label l, Q, s => rfl
  | .loop c, Q, s => rfl
  | .rangeFunc _ _ _ _, Q, s => rfl
  | .scope c, Q, s => by rw [acodeP, acode, acodeP_real c]
  | .goto _, Q, s => rfl
  | .refuse _, Q, s => rfl
end Go.Proofs.Ytmkbnmjhkghdjaa
