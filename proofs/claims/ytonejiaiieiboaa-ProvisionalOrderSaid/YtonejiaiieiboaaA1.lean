/- Chapter 18: slices.Clone gives a row of its own. -/
import Derived.Test.YtonejiaiieiboaaA0
import Derived.Test.YtonejiaiieiboaaY1
set_option linter.unusedVariables false
set_option linter.unusedSimpArgs false
namespace Go.Proofs.Ytonejiaiieiboaa
open Go.RowKit
set_option maxHeartbeats 4000000
set_option maxRecDepth 10000
theorem clone1_o {cs : List DV} {n : Nat} (hw : cs.length = n) (h1 : 1 ≤ n) (h2 : n ≤ 1000000) : DoesO Try.prog (fun _ => none) 39 [.d (.dl cs n none)] [] (.sl 1 0 n none) [(1, .data 3 1 cs true)] := by
  refine does_p KK (fn := Try.f39) Try.func39 rfl (by show 1 ≤ _; decide) ?_
  intro C F p hC hF hp
  conv => cbv
  have e1 : (p.emp cs) = false := p_empL hp (by omega)
  simp only [e1]; clear e1
  conv => cbv
  have ez2 : (p.len cs) = n := by rw [p_len hp]; exact hw
  simp only [ez2]; clear ez2
  conv => cbv
  have ez3 : (p.nm n 1) = n := by rw [p_nm hp]; omega
  simp only [ez3]; clear ez3
  conv => cbv
  have e4 : (p.neq n n) = true := p_neq hp (by omega)
  simp only [e4]; clear e4
  conv => cbv
  have e5 : (p.neq 0 0) = true := p_neq hp (by omega)
  simp only [e5]; clear e5
  conv => cbv
  have e6 : (p.fit 0 n 8) = true := p_fit hp (by omega) (by show _ ≤ 9223372036854775807; omega)
  simp only [e6]; clear e6
  conv => cbv
  have ez7 : (p.na 0 n) = n := by rw [p_na hp]; omega
  simp only [ez7]; clear ez7
  conv => cbv
  have ez8 : (p.app [] cs) = cs := by rw [p_app hp]; rfl
  simp only [ez8]; clear ez8
  conv => cbv
  exact back_obj [(1, 1302)] rfl rfl ⟨⟨rfl, rfl, rfl⟩, trivial⟩ rfl rfl
/-- What slices.Clone gives. -/
def cloneG (l : List Int) : Option (List Int) := bif decide (l.length ≤ 1000000) then some l else none
theorem clone_con : ConOk Try.prog 39 ⟨[.tmp 0 false [.dat (.list (.int .i64))]], [.tmp 0 false [.own 1 3 (.int .i64)]], cloneG⟩ := by
  refine ⟨by kernel_rfl, ?_⟩
  show ∀ (a : List Int) (x : List Int), cloneG a = some x → DoesO Try.prog noG 39 [.d (.dl (encL (.int .i64) a) a.length none)] [] (.sl 1 0 x.length none) [(1, .data 3 1 (encL (.int .i64) x) true)]
  intro a x hx
  unfold cloneG at hx
  rw [cond_ite] at hx
  split at hx
  · cases hx
    by_cases h0 : a = []
    · subst h0; exact clone0_o
    · refine clone1_o ?_ (by cases a with | nil => exact absurd rfl h0 | cons _ _ => simp) (by assumption)
      rw [encL_length]; show a.length * 1 = _; omega
  · cases hx
end Go.Proofs.Ytonejiaiieiboaa
