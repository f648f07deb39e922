import Derived.Test.YtkhdpjlpahammaaFp
import Derived.Test.YtkhdpjlpahammaaXBp
set_option linter.unusedVariables false
set_option linter.unusedSimpArgs false
namespace Go.Proofs.Ytkhdpjlpahammaa
open Go.RowKit
set_option maxHeartbeats 4000000
set_option maxRecDepth 10000
theorem clone0_28 : DoesO Try.prog (fun _ => none) 28 [.d (.dl [] 0 none)] [] (.sl 1 0 0 none) [(1, .data 37 4 [] true)] := by
  refine does_p KK (fn := Try.f28) Try.func28 rfl (by show 1 ≤ _; decide) ?_
  intro C F p hC hF hp
  have e1 : p.emp [] = true := by rw [hp]; rfl
  conv => cbv
  simp only [e1]
  conv => cbv
  refine ⟨back_nilrow, ?_⟩
  conv => cbv
  have ez1 : (p.len []) = 0 := by rw [hp]; rfl
  simp only [ez1]; clear ez1
  conv => cbv
  have ez2 : (p.nm 0 4) = 0 := by rw [hp]; rfl
  simp only [ez2]; clear ez2
  conv => cbv
  have e3 : (p.neq 0 0) = true := p_neq hp (by omega)
  simp only [e3]; clear e3
  conv => cbv
  have e4 : (p.neq 0 0) = true := p_neq hp (by omega)
  simp only [e4]; clear e4
  conv => cbv
  have e5 : (p.fit 0 0 32) = true := p_fit hp (by omega) (by show _ ≤ 9223372036854775807; omega)
  simp only [e5]; clear e5
  conv => cbv
  have ez6 : (p.na 0 0) = 0 := by rw [hp]; rfl
  simp only [ez6]; clear ez6
  conv => cbv
  have ez7 : (p.app [] []) = [] := by rw [p_app hp]; rfl
  simp only [ez7]; clear ez7
  conv => cbv
  exact back_obj [(1, 1302)] rfl rfl ⟨⟨rfl, rfl, rfl⟩, trivial⟩ rfl rfl
theorem clone0_30 : DoesO Try.prog (fun _ => none) 30 [.d (.dl [] 0 none)] [] (.sl 1 0 0 none) [(1, .data 5 1 [] true)] := by
  refine does_p KK (fn := Try.f30) Try.func30 rfl (by show 1 ≤ _; decide) ?_
  intro C F p hC hF hp
  have e1 : p.emp [] = true := by rw [hp]; rfl
  conv => cbv
  simp only [e1]
  conv => cbv
  refine ⟨back_nilrow, ?_⟩
  conv => cbv
  have ez8 : (p.len []) = 0 := by rw [hp]; rfl
  simp only [ez8]; clear ez8
  conv => cbv
  have ez9 : (p.nm 0 1) = 0 := by rw [hp]; rfl
  simp only [ez9]; clear ez9
  conv => cbv
  have e10 : (p.neq 0 0) = true := p_neq hp (by omega)
  simp only [e10]; clear e10
  conv => cbv
  have e11 : (p.neq 0 0) = true := p_neq hp (by omega)
  simp only [e11]; clear e11
  conv => cbv
  have e12 : (p.fit 0 0 1) = true := p_fit hp (by omega) (by show _ ≤ 9223372036854775807; omega)
  simp only [e12]; clear e12
  conv => cbv
  have ez13 : (p.na 0 0) = 0 := by rw [hp]; rfl
  simp only [ez13]; clear ez13
  conv => cbv
  have ez14 : (p.app [] []) = [] := by rw [p_app hp]; rfl
  simp only [ez14]; clear ez14
  conv => cbv
  exact back_obj [(1, 1302)] rfl rfl ⟨⟨rfl, rfl, rfl⟩, trivial⟩ rfl rfl
theorem clone0_40 : DoesO Try.prog (fun _ => none) 40 [.d (.dl [] 0 none)] [] (.sl 1 0 0 none) [(1, .data 67 10 [] true)] := by
  refine does_p KK (fn := Try.f40) Try.func40 rfl (by show 1 ≤ _; decide) ?_
  intro C F p hC hF hp
  have e1 : p.emp [] = true := by rw [hp]; rfl
  conv => cbv
  simp only [e1]
  conv => cbv
  refine ⟨back_nilrow, ?_⟩
  conv => cbv
  have ez15 : (p.len []) = 0 := by rw [hp]; rfl
  simp only [ez15]; clear ez15
  conv => cbv
  have ez16 : (p.nm 0 10) = 0 := by rw [hp]; rfl
  simp only [ez16]; clear ez16
  conv => cbv
  have e17 : (p.neq 0 0) = true := p_neq hp (by omega)
  simp only [e17]; clear e17
  conv => cbv
  have e18 : (p.neq 0 0) = true := p_neq hp (by omega)
  simp only [e18]; clear e18
  conv => cbv
  have e19 : (p.fit 0 0 112) = true := p_fit hp (by omega) (by show _ ≤ 9223372036854775807; omega)
  simp only [e19]; clear e19
  conv => cbv
  have ez20 : (p.na 0 0) = 0 := by rw [hp]; rfl
  simp only [ez20]; clear ez20
  conv => cbv
  have ez21 : (p.app [] []) = [] := by rw [p_app hp]; rfl
  simp only [ez21]; clear ez21
  conv => cbv
  exact back_obj [(1, 1302)] rfl rfl ⟨⟨rfl, rfl, rfl⟩, trivial⟩ rfl rfl
end Go.Proofs.Ytkhdpjlpahammaa
