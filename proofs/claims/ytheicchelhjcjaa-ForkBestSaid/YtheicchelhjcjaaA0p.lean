import Derived.Test.YtheicchelhjcjaaFp
import Derived.Test.YtheicchelhjcjaaXBp
set_option linter.unusedVariables false
set_option linter.unusedSimpArgs false
namespace Go.Proofs.Ytheicchelhjcjaa
open Go.RowKit
set_option maxHeartbeats 4000000
set_option maxRecDepth 10000
theorem clone0_37 : DoesO Try.prog (fun _ => none) 37 [.d (.dl [] 0 none)] [] (.sl 1 0 0 none) [(1, .data 49 4 [] true)] := by
  refine does_p KK (fn := Try.f37) Try.func37 rfl (by show 1 ≤ _; decide) ?_
  intro C F p hC hF hp
  have e1 : p.emp [] = true := by rw [hp]; rfl
  conv => cbv
  simp only [e1]
  conv => cbv
  refine ⟨back_nilrow, ?_⟩
  conv => cbv
  have ez1 : (p.len []) = 0 := by rw [hp]; rfl
  simp only [ez1]; clear ez1
  conv => cbv
  have ez2 : (p.nm 0 4) = 0 := by rw [hp]; rfl
  simp only [ez2]; clear ez2
  conv => cbv
  have e3 : (p.neq 0 0) = true := p_neq hp (by omega)
  simp only [e3]; clear e3
  conv => cbv
  have e4 : (p.neq 0 0) = true := p_neq hp (by omega)
  simp only [e4]; clear e4
  conv => cbv
  have e5 : (p.fit 0 0 40) = true := p_fit hp (by omega) (by show _ ≤ 9223372036854775807; omega)
  simp only [e5]; clear e5
  conv => cbv
  have ez6 : (p.na 0 0) = 0 := by rw [hp]; rfl
  simp only [ez6]; clear ez6
  conv => cbv
  have ez7 : (p.app [] []) = [] := by rw [p_app hp]; rfl
  simp only [ez7]; clear ez7
  conv => cbv
  exact back_obj [(1, 1302)] rfl rfl ⟨⟨rfl, rfl, rfl⟩, trivial⟩ rfl rfl
def cloneC37 : ConK := fun f args rd => bif f == 37 then (fun k => match rd k with
  | some _ => none
  | none => match args with
    | [.d (.dl [] 0 none)] => some (.sl k 0 0 none, [(k, .data 49 4 [] true)], [k])
    | [.sl r off 0 c] => match rd r with
      | some (.data e s cs wr) => bif r == k then none else some (.sl k 0 0 none, [(k, .data 49 4 [] true)] ++ [(r, .data e s cs false)], [k, r])
      | _ => none
    | _ => none) (freshN rd 100 5000000) else none
theorem cloneC37_ok : ∀ f args rd v us rds, cloneC37 f args rd = some (v, us, rds) → fnOk Try.prog f = true ∧ Does Try.prog (fun _ => none) f args rds v us rd := fun f args rd v us rds h => by
  unfold cloneC37 at h
  cases hf : f == 37 with
  | false => rw [hf] at h; cases h
  | true =>
    have := eq_of_beq hf
    subst this
    rw [hf, cond_true] at h
    refine ⟨by kernel_rfl, ?_⟩
    generalize freshN rd 100 5000000 = k at h
    simp only at h
    split at h
    · cases h
    · rename_i hk
      split at h
      · cases h; exact does_own1 clone0_37 rfl hk
      · rename_i r off c
        split at h
        · rename_i e s cs wr hr
          cases hrk : r == k with
          | true => rw [hrk] at h; cases h
          | false =>
            rw [hrk, cond_false] at h
            cases h
            have hne : r ≠ k := by intro e; subst e; simp at hrk
            refine does_freeze (F := [(r, .data e s cs false)]) (args' := [.d (.dl [] 0 none)]) ?_ ⟨by simp, ⟨_, _, _, _, hr, rfl⟩, trivial⟩ ?_
            · have W := does_own1 (rd := updF rd [(r, .data e s cs false)]) (r := k) clone0_37 rfl (by simp [updF, look, hne, hk])
              exact does_rds W (by simp)
            · rw [TdL]
              refine ⟨_, _, rfl, ?_, by rw [TdL]⟩
              rw [TdV]
              unfold TdD lookF look
              simp
        · cases h
      · cases h
def cloneC : ConK := cloneC37
theorem cloneC_ok : ∀ f args rd v us rds, cloneC f args rd = some (v, us, rds) → fnOk Try.prog f = true ∧ Does Try.prog (fun _ => none) f args rds v us rd := cloneC37_ok
end Go.Proofs.Ytheicchelhjcjaa
