import Derived.Test.YtkhdpjlpahammaaA0p
import Derived.Test.YtkhdpjlpahammaaY1p
set_option linter.unusedVariables false
set_option linter.unusedSimpArgs false
namespace Go.Proofs.Ytkhdpjlpahammaa
open Go.RowKit
set_option maxHeartbeats 4000000
set_option maxRecDepth 10000
def cloneG {α : Type} (l : List α) : Option (List α) := bif decide (l.length ≤ 1000000) then some l else none
def cloneB (l : List Int) : Option (List Int) := bif decide (l.length ≤ 140737488355328) then some l else none
theorem clone1_28 {cs : List DV} {n : Nat} (hw : cs.length = n * 4) (h1 : 1 ≤ n) (h2 : n ≤ 1000000) : DoesO Try.prog (fun _ => none) 28 [.d (.dl cs n none)] [] (.sl 1 0 n none) [(1, .data 37 4 cs true)] := by
  refine does_p KK (fn := Try.f28) Try.func28 rfl (by show 1 ≤ _; decide) ?_
  intro C F p hC hF hp
  conv => cbv
  have e1 : (p.emp cs) = false := p_empL hp (by omega)
  simp only [e1]; clear e1
  conv => cbv
  obtain ⟨z2, hz2⟩ : ∃ z : Nat, z = (cs).length := ⟨_, rfl⟩
  have ez2 : (p.len cs) = z2 := by rw [hz2]; exact p_len hp
  simp only [ez2]
  conv => cbv
  obtain ⟨z3, hz3⟩ : ∃ z : Nat, z = n * 4 := ⟨_, rfl⟩
  have ez3 : (p.nm n 4) = z3 := by rw [hz3]; exact p_nm hp
  simp only [ez3]
  conv => cbv
  have e4 : (p.neq z2 z3) = true := p_neq hp (by omega)
  simp only [e4]; clear e4
  conv => cbv
  have e5 : (p.neq 0 0) = true := p_neq hp (by omega)
  simp only [e5]; clear e5
  conv => cbv
  have e6 : (p.fit 0 n 32) = true := p_fit hp (by omega) (by show _ ≤ 9223372036854775807; omega)
  simp only [e6]; clear e6
  conv => cbv
  have ez7 : (p.na 0 n) = n := by rw [p_na hp]; omega
  simp only [ez7]; clear ez7
  conv => cbv
  have ez8 : (p.app [] cs) = cs := by rw [p_app hp]; rfl
  simp only [ez8]; clear ez8
  conv => cbv
  exact back_obj [(1, 1302)] rfl rfl ⟨⟨rfl, rfl, rfl⟩, trivial⟩ rfl rfl
theorem clone_con28 : ConOk Try.prog 28 ⟨[.tmp 0 false [.dat (.list (.pair .bool (.pair (.int .i64) (.pair .bool (.int .i64)))))]], [.tmp 0 false [.own 1 37 (.pair .bool (.pair (.int .i64) (.pair .bool (.int .i64))))]], cloneG⟩ := by
  refine ⟨by kernel_rfl, ?_⟩
  show ∀ (a x : List ((Bool) × ((Int) × ((Bool) × (Int))))), cloneG a = some x → DoesO Try.prog noG 28 [.d (.dl (encL (.pair .bool (.pair (.int .i64) (.pair .bool (.int .i64)))) a) a.length none)] [] (.sl 1 0 x.length none) [(1, .data 37 (szU (.pair .bool (.pair (.int .i64) (.pair .bool (.int .i64))))) (encL (.pair .bool (.pair (.int .i64) (.pair .bool (.int .i64)))) x) true)]
  intro a x hx
  unfold cloneG at hx
  rw [cond_ite] at hx
  split at hx
  · cases hx
    by_cases h0 : a = []
    · subst h0; exact clone0_28
    · refine clone1_28 ?_ (by cases a with | nil => exact absurd rfl h0 | cons _ _ => simp) (by assumption)
      exact encL_length _ _
  · cases hx
theorem clone1_30 {cs : List DV} {n : Nat} (hw : cs.length = n * 1) (h1 : 1 ≤ n) (h2 : n ≤ 140737488355328) : DoesO Try.prog (fun _ => none) 30 [.d (.dl cs n none)] [] (.sl 1 0 n none) [(1, .data 5 1 cs true)] := by
  refine does_p KK (fn := Try.f30) Try.func30 rfl (by show 1 ≤ _; decide) ?_
  intro C F p hC hF hp
  conv => cbv
  have e9 : (p.emp cs) = false := p_empL hp (by omega)
  simp only [e9]; clear e9
  conv => cbv
  obtain ⟨z10, hz10⟩ : ∃ z : Nat, z = (cs).length := ⟨_, rfl⟩
  have ez10 : (p.len cs) = z10 := by rw [hz10]; exact p_len hp
  simp only [ez10]
  conv => cbv
  have ez11 : (p.nm n 1) = n := by rw [p_nm hp]; omega
  simp only [ez11]; clear ez11
  conv => cbv
  have e12 : (p.neq z10 n) = true := p_neq hp (by omega)
  simp only [e12]; clear e12
  conv => cbv
  have e13 : (p.neq 0 0) = true := p_neq hp (by omega)
  simp only [e13]; clear e13
  conv => cbv
  have e14 : (p.fit 0 n 1) = true := p_fit hp (by omega) (by show _ ≤ 9223372036854775807; omega)
  simp only [e14]; clear e14
  conv => cbv
  have ez15 : (p.na 0 n) = n := by rw [p_na hp]; omega
  simp only [ez15]; clear ez15
  conv => cbv
  have ez16 : (p.app [] cs) = cs := by rw [p_app hp]; rfl
  simp only [ez16]; clear ez16
  conv => cbv
  exact back_obj [(1, 1302)] rfl rfl ⟨⟨rfl, rfl, rfl⟩, trivial⟩ rfl rfl
theorem clone_con30 : ConOk Try.prog 30 ⟨[.tmp 0 false [.dat (.list (.int .u8))]], [.tmp 0 false [.own 1 5 (.int .u8)]], cloneB⟩ := by
  refine ⟨by kernel_rfl, ?_⟩
  show ∀ (a x : List (Int)), cloneB a = some x → DoesO Try.prog noG 30 [.d (.dl (encL (.int .u8) a) a.length none)] [] (.sl 1 0 x.length none) [(1, .data 5 (szU (.int .u8)) (encL (.int .u8) x) true)]
  intro a x hx
  unfold cloneB at hx
  rw [cond_ite] at hx
  split at hx
  · cases hx
    by_cases h0 : a = []
    · subst h0; exact clone0_30
    · refine clone1_30 ?_ (by cases a with | nil => exact absurd rfl h0 | cons _ _ => simp) (by assumption)
      exact encL_length _ _
  · cases hx
theorem clone1_40 {cs : List DV} {n : Nat} (hw : cs.length = n * 10) (h1 : 1 ≤ n) (h2 : n ≤ 1000000) : DoesO Try.prog (fun _ => none) 40 [.d (.dl cs n none)] [] (.sl 1 0 n none) [(1, .data 67 10 cs true)] := by
  refine does_p KK (fn := Try.f40) Try.func40 rfl (by show 1 ≤ _; decide) ?_
  intro C F p hC hF hp
  conv => cbv
  have e17 : (p.emp cs) = false := p_empL hp (by omega)
  simp only [e17]; clear e17
  conv => cbv
  obtain ⟨z18, hz18⟩ : ∃ z : Nat, z = (cs).length := ⟨_, rfl⟩
  have ez18 : (p.len cs) = z18 := by rw [hz18]; exact p_len hp
  simp only [ez18]
  conv => cbv
  obtain ⟨z19, hz19⟩ : ∃ z : Nat, z = n * 10 := ⟨_, rfl⟩
  have ez19 : (p.nm n 10) = z19 := by rw [hz19]; exact p_nm hp
  simp only [ez19]
  conv => cbv
  have e20 : (p.neq z18 z19) = true := p_neq hp (by omega)
  simp only [e20]; clear e20
  conv => cbv
  have e21 : (p.neq 0 0) = true := p_neq hp (by omega)
  simp only [e21]; clear e21
  conv => cbv
  have e22 : (p.fit 0 n 112) = true := p_fit hp (by omega) (by show _ ≤ 9223372036854775807; omega)
  simp only [e22]; clear e22
  conv => cbv
  have ez23 : (p.na 0 n) = n := by rw [p_na hp]; omega
  simp only [ez23]; clear ez23
  conv => cbv
  have ez24 : (p.app [] cs) = cs := by rw [p_app hp]; rfl
  simp only [ez24]; clear ez24
  conv => cbv
  exact back_obj [(1, 1302)] rfl rfl ⟨⟨rfl, rfl, rfl⟩, trivial⟩ rfl rfl
theorem clone_con40 : ConOk Try.prog 40 ⟨[.tmp 0 false [.dat (.list (.pair (.pair .bool (.pair (.int .i64) (.pair .bool (.int .i64)))) (.pair (.int .i64) (.pair .str (.pair .str (.pair (.int .i64) (.pair .bool (.list (.int .u8)))))))))]], [.tmp 0 false [.own 1 67 (.pair (.pair .bool (.pair (.int .i64) (.pair .bool (.int .i64)))) (.pair (.int .i64) (.pair .str (.pair .str (.pair (.int .i64) (.pair .bool (.list (.int .u8))))))))]], cloneG⟩ := by
  refine ⟨by kernel_rfl, ?_⟩
  show ∀ (a x : List (((Bool) × ((Int) × ((Bool) × (Int)))) × ((Int) × ((List UInt8) × ((List UInt8) × ((Int) × ((Bool) × (List (Int))))))))), cloneG a = some x → DoesO Try.prog noG 40 [.d (.dl (encL (.pair (.pair .bool (.pair (.int .i64) (.pair .bool (.int .i64)))) (.pair (.int .i64) (.pair .str (.pair .str (.pair (.int .i64) (.pair .bool (.list (.int .u8)))))))) a) a.length none)] [] (.sl 1 0 x.length none) [(1, .data 67 (szU (.pair (.pair .bool (.pair (.int .i64) (.pair .bool (.int .i64)))) (.pair (.int .i64) (.pair .str (.pair .str (.pair (.int .i64) (.pair .bool (.list (.int .u8))))))))) (encL (.pair (.pair .bool (.pair (.int .i64) (.pair .bool (.int .i64)))) (.pair (.int .i64) (.pair .str (.pair .str (.pair (.int .i64) (.pair .bool (.list (.int .u8)))))))) x) true)]
  intro a x hx
  unfold cloneG at hx
  rw [cond_ite] at hx
  split at hx
  · cases hx
    by_cases h0 : a = []
    · subst h0; exact clone0_40
    · refine clone1_40 ?_ (by cases a with | nil => exact absurd rfl h0 | cons _ _ => simp) (by assumption)
      exact encL_length _ _
  · cases hx
end Go.Proofs.Ytkhdpjlpahammaa
