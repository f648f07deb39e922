import Derived.Test.YtlaccfegaoaakaaFp
import Derived.Test.YtlaccfegaoaakaaXBp
set_option linter.unusedVariables false
set_option linter.unusedSimpArgs false
namespace Go.Proofs.Ytlaccfegaoaakaa
open Go.RowKit
set_option maxHeartbeats 4000000
set_option maxRecDepth 10000
theorem clone0_66 : DoesO Try.prog (fun _ => none) 66 [.d (.dl [] 0 none)] [] (.sl 1 0 0 none) [(1, .data 5 1 [] true)] := by
  refine does_p KK (fn := Try.f66) Try.func66 rfl (by show 1 ≤ _; decide) ?_
  intro C F p hC hF hp
  have e1 : p.emp [] = true := by rw [hp]; rfl
  conv => cbv
  simp only [e1]
  conv => cbv
  refine ⟨back_nilrow, ?_⟩
  conv => cbv
  have ez1 : (p.len []) = 0 := by rw [hp]; rfl
  simp only [ez1]; clear ez1
  conv => cbv
  have ez2 : (p.nm 0 1) = 0 := by rw [hp]; rfl
  simp only [ez2]; clear ez2
  conv => cbv
  have e3 : (p.neq 0 0) = true := p_neq hp (by omega)
  simp only [e3]; clear e3
  conv => cbv
  have e4 : (p.neq 0 0) = true := p_neq hp (by omega)
  simp only [e4]; clear e4
  conv => cbv
  have e5 : (p.fit 0 0 1) = true := p_fit hp (by omega) (by show _ ≤ 9223372036854775807; omega)
  simp only [e5]; clear e5
  conv => cbv
  have ez6 : (p.na 0 0) = 0 := by rw [hp]; rfl
  simp only [ez6]; clear ez6
  conv => cbv
  have ez7 : (p.app [] []) = [] := by rw [p_app hp]; rfl
  simp only [ez7]; clear ez7
  conv => cbv
  exact back_obj [(1, 1302)] rfl rfl ⟨⟨rfl, rfl, rfl⟩, trivial⟩ rfl rfl
def cloneC66 : ConK := fun f args rd => bif f == 66 then (fun k => match rd k with
  | some _ => none
  | none => match args with
    | [.d (.dl [] 0 none)] => some (.sl k 0 0 none, [(k, .data 5 1 [] true)], [k])
    | [.sl r off 0 c] => match rd r with
      | some (.data e s cs wr) => bif r == k then none else some (.sl k 0 0 none, [(k, .data 5 1 [] true)] ++ [(r, .data e s cs false)], [k, r])
      | _ => none
    | _ => none) (freshN rd 100 5000000) else none
theorem cloneC66_ok : ∀ f args rd v us rds, cloneC66 f args rd = some (v, us, rds) → fnOk Try.prog f = true ∧ Does Try.prog (fun _ => none) f args rds v us rd := fun f args rd v us rds h => by
  unfold cloneC66 at h
  cases hf : f == 66 with
  | false => rw [hf] at h; cases h
  | true =>
    have := eq_of_beq hf
    subst this
    rw [hf, cond_true] at h
    refine ⟨by kernel_rfl, ?_⟩
    generalize freshN rd 100 5000000 = k at h
    simp only at h
    split at h
    · cases h
    · rename_i hk
      split at h
      · cases h; exact does_own1 clone0_66 rfl hk
      · rename_i r off c
        split at h
        · rename_i e s cs wr hr
          cases hrk : r == k with
          | true => rw [hrk] at h; cases h
          | false =>
            rw [hrk, cond_false] at h
            cases h
            have hne : r ≠ k := by intro e; subst e; simp at hrk
            refine does_freeze (F := [(r, .data e s cs false)]) (args' := [.d (.dl [] 0 none)]) ?_ ⟨by simp, ⟨_, _, _, _, hr, rfl⟩, trivial⟩ ?_
            · have W := does_own1 (rd := updF rd [(r, .data e s cs false)]) (r := k) clone0_66 rfl (by simp [updF, look, hne, hk])
              exact does_rds W (by simp)
            · rw [TdL]
              refine ⟨_, _, rfl, ?_, by rw [TdL]⟩
              rw [TdV]
              unfold TdD lookF look
              simp
        · cases h
      · cases h
theorem clone0_86 : DoesO Try.prog (fun _ => none) 86 [.d (.dl [] 0 none)] [] (.sl 1 0 0 none) [(1, .data 76 10 [] true)] := by
  refine does_p KK (fn := Try.f86) Try.func86 rfl (by show 1 ≤ _; decide) ?_
  intro C F p hC hF hp
  have e1 : p.emp [] = true := by rw [hp]; rfl
  conv => cbv
  simp only [e1]
  conv => cbv
  refine ⟨back_nilrow, ?_⟩
  conv => cbv
  have ez8 : (p.len []) = 0 := by rw [hp]; rfl
  simp only [ez8]; clear ez8
  conv => cbv
  have ez9 : (p.nm 0 10) = 0 := by rw [hp]; rfl
  simp only [ez9]; clear ez9
  conv => cbv
  have e10 : (p.neq 0 0) = true := p_neq hp (by omega)
  simp only [e10]; clear e10
  conv => cbv
  have e11 : (p.neq 0 0) = true := p_neq hp (by omega)
  simp only [e11]; clear e11
  conv => cbv
  have e12 : (p.fit 0 0 128) = true := p_fit hp (by omega) (by show _ ≤ 9223372036854775807; omega)
  simp only [e12]; clear e12
  conv => cbv
  have ez13 : (p.na 0 0) = 0 := by rw [hp]; rfl
  simp only [ez13]; clear ez13
  conv => cbv
  have ez14 : (p.app [] []) = [] := by rw [p_app hp]; rfl
  simp only [ez14]; clear ez14
  conv => cbv
  exact back_obj [(1, 1302)] rfl rfl ⟨⟨rfl, rfl, rfl⟩, trivial⟩ rfl rfl
def cloneC86 : ConK := fun f args rd => bif f == 86 then (fun k => match rd k with
  | some _ => none
  | none => match args with
    | [.d (.dl [] 0 none)] => some (.sl k 0 0 none, [(k, .data 76 10 [] true)], [k])
    | [.sl r off 0 c] => match rd r with
      | some (.data e s cs wr) => bif r == k then none else some (.sl k 0 0 none, [(k, .data 76 10 [] true)] ++ [(r, .data e s cs false)], [k, r])
      | _ => none
    | _ => none) (freshN rd 100 5000000) else none
theorem cloneC86_ok : ∀ f args rd v us rds, cloneC86 f args rd = some (v, us, rds) → fnOk Try.prog f = true ∧ Does Try.prog (fun _ => none) f args rds v us rd := fun f args rd v us rds h => by
  unfold cloneC86 at h
  cases hf : f == 86 with
  | false => rw [hf] at h; cases h
  | true =>
    have := eq_of_beq hf
    subst this
    rw [hf, cond_true] at h
    refine ⟨by kernel_rfl, ?_⟩
    generalize freshN rd 100 5000000 = k at h
    simp only at h
    split at h
    · cases h
    · rename_i hk
      split at h
      · cases h; exact does_own1 clone0_86 rfl hk
      · rename_i r off c
        split at h
        · rename_i e s cs wr hr
          cases hrk : r == k with
          | true => rw [hrk] at h; cases h
          | false =>
            rw [hrk, cond_false] at h
            cases h
            have hne : r ≠ k := by intro e; subst e; simp at hrk
            refine does_freeze (F := [(r, .data e s cs false)]) (args' := [.d (.dl [] 0 none)]) ?_ ⟨by simp, ⟨_, _, _, _, hr, rfl⟩, trivial⟩ ?_
            · have W := does_own1 (rd := updF rd [(r, .data e s cs false)]) (r := k) clone0_86 rfl (by simp [updF, look, hne, hk])
              exact does_rds W (by simp)
            · rw [TdL]
              refine ⟨_, _, rfl, ?_, by rw [TdL]⟩
              rw [TdV]
              unfold TdD lookF look
              simp
        · cases h
      · cases h
theorem clone0_87 : DoesO Try.prog (fun _ => none) 87 [.d (.dl [] 0 none)] [] (.sl 1 0 0 none) [(1, .data 9 1 [] true)] := by
  refine does_p KK (fn := Try.f87) Try.func87 rfl (by show 1 ≤ _; decide) ?_
  intro C F p hC hF hp
  have e1 : p.emp [] = true := by rw [hp]; rfl
  conv => cbv
  simp only [e1]
  conv => cbv
  refine ⟨back_nilrow, ?_⟩
  conv => cbv
  have ez15 : (p.len []) = 0 := by rw [hp]; rfl
  simp only [ez15]; clear ez15
  conv => cbv
  have ez16 : (p.nm 0 1) = 0 := by rw [hp]; rfl
  simp only [ez16]; clear ez16
  conv => cbv
  have e17 : (p.neq 0 0) = true := p_neq hp (by omega)
  simp only [e17]; clear e17
  conv => cbv
  have e18 : (p.neq 0 0) = true := p_neq hp (by omega)
  simp only [e18]; clear e18
  conv => cbv
  have e19 : (p.fit 0 0 16) = true := p_fit hp (by omega) (by show _ ≤ 9223372036854775807; omega)
  simp only [e19]; clear e19
  conv => cbv
  have ez20 : (p.na 0 0) = 0 := by rw [hp]; rfl
  simp only [ez20]; clear ez20
  conv => cbv
  have ez21 : (p.app [] []) = [] := by rw [p_app hp]; rfl
  simp only [ez21]; clear ez21
  conv => cbv
  exact back_obj [(1, 1302)] rfl rfl ⟨⟨rfl, rfl, rfl⟩, trivial⟩ rfl rfl
def cloneC87 : ConK := fun f args rd => bif f == 87 then (fun k => match rd k with
  | some _ => none
  | none => match args with
    | [.d (.dl [] 0 none)] => some (.sl k 0 0 none, [(k, .data 9 1 [] true)], [k])
    | [.sl r off 0 c] => match rd r with
      | some (.data e s cs wr) => bif r == k then none else some (.sl k 0 0 none, [(k, .data 9 1 [] true)] ++ [(r, .data e s cs false)], [k, r])
      | _ => none
    | _ => none) (freshN rd 100 5000000) else none
theorem cloneC87_ok : ∀ f args rd v us rds, cloneC87 f args rd = some (v, us, rds) → fnOk Try.prog f = true ∧ Does Try.prog (fun _ => none) f args rds v us rd := fun f args rd v us rds h => by
  unfold cloneC87 at h
  cases hf : f == 87 with
  | false => rw [hf] at h; cases h
  | true =>
    have := eq_of_beq hf
    subst this
    rw [hf, cond_true] at h
    refine ⟨by kernel_rfl, ?_⟩
    generalize freshN rd 100 5000000 = k at h
    simp only at h
    split at h
    · cases h
    · rename_i hk
      split at h
      · cases h; exact does_own1 clone0_87 rfl hk
      · rename_i r off c
        split at h
        · rename_i e s cs wr hr
          cases hrk : r == k with
          | true => rw [hrk] at h; cases h
          | false =>
            rw [hrk, cond_false] at h
            cases h
            have hne : r ≠ k := by intro e; subst e; simp at hrk
            refine does_freeze (F := [(r, .data e s cs false)]) (args' := [.d (.dl [] 0 none)]) ?_ ⟨by simp, ⟨_, _, _, _, hr, rfl⟩, trivial⟩ ?_
            · have W := does_own1 (rd := updF rd [(r, .data e s cs false)]) (r := k) clone0_87 rfl (by simp [updF, look, hne, hk])
              exact does_rds W (by simp)
            · rw [TdL]
              refine ⟨_, _, rfl, ?_, by rw [TdL]⟩
              rw [TdV]
              unfold TdD lookF look
              simp
        · cases h
      · cases h
def cloneC : ConK := orC cloneC66 (orC cloneC86 (cloneC87))
theorem cloneC_ok : ∀ f args rd v us rds, cloneC f args rd = some (v, us, rds) → fnOk Try.prog f = true ∧ Does Try.prog (fun _ => none) f args rds v us rd := orC_ok cloneC66_ok (orC_ok cloneC86_ok (cloneC87_ok))
end Go.Proofs.Ytlaccfegaoaakaa
