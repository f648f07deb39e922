import Derived.Test.YtheicchelhjcjaaA0p
import Derived.Test.YtheicchelhjcjaaY1p
set_option linter.unusedVariables false
set_option linter.unusedSimpArgs false
namespace Go.Proofs.Ytheicchelhjcjaa
open Go.RowKit
set_option maxHeartbeats 4000000
set_option maxRecDepth 10000
def cloneG {α : Type} (l : List α) : Option (List α) := bif decide (l.length ≤ 1000000) then some l else none
theorem clone1_37 {cs : List DV} {n : Nat} (hw : cs.length = n * 4) (h1 : 1 ≤ n) (h2 : n ≤ 1000000) : DoesO Try.prog (fun _ => none) 37 [.d (.dl cs n none)] [] (.sl 1 0 n none) [(1, .data 49 4 cs true)] := by
  refine does_p KK (fn := Try.f37) Try.func37 rfl (by show 1 ≤ _; decide) ?_
  intro C F p hC hF hp
  conv => cbv
  have e1 : (p.emp cs) = false := p_empL hp (by omega)
  simp only [e1]; clear e1
  conv => cbv
  obtain ⟨z2, hz2⟩ : ∃ z : Nat, z = (cs).length := ⟨_, rfl⟩
  have ez2 : (p.len cs) = z2 := by rw [hz2]; exact p_len hp
  simp only [ez2]
  conv => cbv
  obtain ⟨z3, hz3⟩ : ∃ z : Nat, z = n * 4 := ⟨_, rfl⟩
  have ez3 : (p.nm n 4) = z3 := by rw [hz3]; exact p_nm hp
  simp only [ez3]
  conv => cbv
  have e4 : (p.neq z2 z3) = true := p_neq hp (by omega)
  simp only [e4]; clear e4
  conv => cbv
  have e5 : (p.neq 0 0) = true := p_neq hp (by omega)
  simp only [e5]; clear e5
  conv => cbv
  have e6 : (p.fit 0 n 40) = true := p_fit hp (by omega) (by show _ ≤ 9223372036854775807; omega)
  simp only [e6]; clear e6
  conv => cbv
  have ez7 : (p.na 0 n) = n := by rw [p_na hp]; omega
  simp only [ez7]; clear ez7
  conv => cbv
  have ez8 : (p.app [] cs) = cs := by rw [p_app hp]; rfl
  simp only [ez8]; clear ez8
  conv => cbv
  exact back_obj [(1, 1302)] rfl rfl ⟨⟨rfl, rfl, rfl⟩, trivial⟩ rfl rfl
theorem clone_con37 : ConOk Try.prog 37 ⟨[.tmp 0 false [.dat (.list (.pair .str (.pair (.int .i64) (.pair (.int .u8) (.int .i64)))))]], [.tmp 0 false [.own 1 49 (.pair .str (.pair (.int .i64) (.pair (.int .u8) (.int .i64))))]], cloneG⟩ := by
  refine ⟨by kernel_rfl, ?_⟩
  show ∀ (a x : List ((List UInt8) × ((Int) × ((Int) × (Int))))), cloneG a = some x → DoesO Try.prog noG 37 [.d (.dl (encL (.pair .str (.pair (.int .i64) (.pair (.int .u8) (.int .i64)))) a) a.length none)] [] (.sl 1 0 x.length none) [(1, .data 49 (szU (.pair .str (.pair (.int .i64) (.pair (.int .u8) (.int .i64))))) (encL (.pair .str (.pair (.int .i64) (.pair (.int .u8) (.int .i64)))) x) true)]
  intro a x hx
  unfold cloneG at hx
  rw [cond_ite] at hx
  split at hx
  · cases hx
    by_cases h0 : a = []
    · subst h0; exact clone0_37
    · refine clone1_37 ?_ (by cases a with | nil => exact absurd rfl h0 | cons _ _ => simp) (by assumption)
      exact encL_length _ _
  · cases hx
end Go.Proofs.Ytheicchelhjcjaa
