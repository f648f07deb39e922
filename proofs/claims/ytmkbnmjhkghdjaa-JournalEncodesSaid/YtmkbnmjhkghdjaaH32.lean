/- The abstract machine, run: a function without arguments that answers true; a call that is entered in the walk. -/
import Derived.Test.YtmkbnmjhkghdjaaH31
set_option linter.unusedVariables false
set_option linter.unusedSimpArgs false
namespace Go.Proofs.Ytmkbnmjhkghdjaa
open Go.RowKit

/-- The functions that are entered. -/
def TabOk (P : Program) : List (Nat × Func) → Prop
  | [] => True
  | (f, fn) :: l => P.funcs[f]? = some fn ∧ fnOk P f = true ∧ TabOk P l
def tabOf (l : List (Nat × Func)) (f : FuncId) : Option Func := look f l
theorem tabOf_ok {P : Program} : ∀ {l : List (Nat × Func)}, TabOk P l → ∀ f fn, tabOf l f = some fn → P.funcs[f]? = some fn ∧ fnOk P f = true
  | [], _, f, fn, h => by cases h
  | (g, gn) :: l, hl, f, fn, h => by
    unfold tabOf look at h
    split at h
    · rename_i hg; subst hg; cases h; exact ⟨hl.1, hl.2.1⟩
    · exact tabOf_ok hl.2.2 f fn h
def endTrue (T : Ty) (fn : Func) (e : Exit) (s : SL) (F : Nat) : Prop :=
  match endB e with
  | false => False
  | true => match resA T fn s with
    | some (.d (.val (.bool true))) => True
    | _ => False
section
variable {P : Program} {GL : Nat → Option (List DV)} {L : List (List (Option TI))} {cs : List Nat}
theorem refsB_nil_of {x : AV} (h : x = aBool true) : refsB [] x.refs = true := by subst h; rfl
/-- **It answers true.** -/
theorem runs_true (K : Facts P L cs) {l : List (Nat × Func)} (hl : TabOk P l) {con : ConK} (hcon : ∀ f args rd v us rds, con f args rd = some (v, us, rds) → fnOk P f = true ∧ Does P GL f args rds v us rd) {f : FuncId} {fn : Func} {c : Code} (hf : P.funcs[f]? = some fn) (hb : fn.body = some c) (n : Nat)
    (h : xcode real (fun _ _ _ _ _ _ => False) con (tabOf l) (tabF (tiOf P) L) GL (qOf cs) n fn.ntmps [] c (endTrue (tabF (tiOf P) L) fn) ⟨fn.ntmps, [], []⟩ 0 = True) : DoesO P GL f [] [] (aBool true) [] := by
  have h' := of_eq_true h
  rw [← K.hT] at h'
  obtain ⟨e, s', F', h1, h2⟩ := xcode_sound K.hq K.hdp K.hm (fun _ _ _ _ _ _ h => h.elim) hcon (tabOf_ok hl) n fn.ntmps [] (lookF []) c _ _ 0 (fun r hr => by cases hr) h'
  unfold endTrue at h1
  split at h1
  · exact h1.elim
  · rename_i he
    split at h1
    · rename_i hx
      exact doesO_of_to hf hb (args := []) (Nat.zero_le _) h2 he hx (fun r o ho => by cases ho) rfl rfl rfl
    · exact h1.elim
/-- **A call that is entered.** -/
theorem inline_p (K : Facts P L cs) {l : List (Nat × Func)} (hl : TabOk P l) {N : Nat} {hp0 : Nat → Option AO} {C : Cxt} {F : Ty} {p : Pr} (hC : C = cxtOf P GL N hp0) (hF : F = tiOf P) (hp : p = real) {f : FuncId} {args : List AV} {hp1 : List (Nat × AO)} {X : AV → List (Nat × AO) → List Nat → Prop} (n F0 : Nat)
    (h : xcall C.D (fun _ _ _ => none) (tabOf l) (tabF F L) (xcode p C.D (fun _ _ _ => none) (tabOf l) (tabF F L) GL (qOf cs) n) f args ⟨0, [], hp1⟩ F0 (fun v us rds _ => X v us rds)) : ∃ v us rds, C.D f args rds v us (fun r => look r hp1) ∧ X v us rds := by
  subst hC hF hp
  rw [← K.hT] at h
  obtain ⟨v, us, rds, F', h1, h2, h3⟩ := xcall_sound (fun _ _ _ _ _ _ h => h) (fun _ _ _ _ _ _ h => by cases h) (tabOf_ok hl) (xcode_sound K.hq K.hdp K.hm (fun _ _ _ _ _ _ h => h) (fun _ _ _ _ _ _ h => by cases h) (tabOf_ok hl) n) f args ⟨0, [], hp1⟩ F0 _ h
  exact ⟨v, us, rds, ⟨h1, h2⟩, h3⟩
end
end Go.Proofs.Ytmkbnmjhkghdjaa
