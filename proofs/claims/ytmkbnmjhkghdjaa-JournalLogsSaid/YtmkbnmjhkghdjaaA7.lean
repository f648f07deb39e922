/- Chapter 20: a log's validity. -/
import Derived.Test.YtmkbnmjhkghdjaaA6
set_option linter.unusedVariables false
set_option linter.unusedSimpArgs false
namespace Go.Proofs.Ytmkbnmjhkghdjaa
open Go.RowKit
set_option maxHeartbeats 2000000
def logA (l : List UInt8) (sy ct : Int) : AV := .agg [.d (bD l), aInt .i64 sy, aInt .i64 ct]
def validL (l : List UInt8) (sy ct : Int) : Bool := decide (sy ≥ 0) && (decide (sy ≤ (l.length : Int)) && (decide (ct ≥ 0) && decide (ct ≤ 1048576)))
theorem valid_o (l : List UInt8) (sy ct : Int) : DoesO Try.prog (fun _ => none) 27 [logA l sy ct] [] (aBool (validL l sy ct)) [] := by
  unfold logA bD
  obtain ⟨cs, hcs⟩ : ∃ cs, bytesD l = cs := ⟨_, rfl⟩
  obtain ⟨n, hn⟩ : ∃ n, l.length = n := ⟨_, rfl⟩
  obtain ⟨r, hr⟩ : ∃ r, validL l sy ct = r := ⟨_, rfl⟩
  rw [hcs, hn, hr]
  refine does_p KK (fn := Try.f27) Try.func27 rfl (by show 1 ≤ _; decide) ?_
  intro C F p hC hF hp
  have c1 : p.cmp .geq sy 0 = decide (sy ≥ 0) := p_cmp_geq hp
  have c2 : p.cmp .leq sy (p.zi n) = decide (sy ≤ (n : Int)) := by rw [p_cmp_leq hp, p_zi hp]
  have c3 : p.cmp .geq ct 0 = decide (ct ≥ 0) := p_cmp_geq hp
  have c4 : p.cmp .leq ct 1048576 = decide (ct ≤ 1048576) := p_cmp_leq hp
  unfold validL at hr
  rw [hn, ← c1, ← c2, ← c3, ← c4] at hr
  cases h1 : p.cmp .geq sy 0 <;> cases h2 : p.cmp .leq sy (p.zi n) <;> cases h3 : p.cmp .geq ct 0 <;> cases h4 : p.cmp .leq ct 1048576 <;> (
    rw [h1, h2, h3, h4] at hr
    subst hr
    conv => cbv
    repeat (simp only [h1, h2, h3, h4]; conv => cbv)
    exact back_same rfl)
theorem rvalid_o (l : List UInt8) (sy ct : Int) : DoesO Try.prog (fun _ => none) 28 [logA l sy ct] [] (aBool (validL l sy ct)) [] := by
  unfold logA bD
  obtain ⟨cs, hcs⟩ : ∃ cs, bytesD l = cs := ⟨_, rfl⟩
  obtain ⟨n, hn⟩ : ∃ n, l.length = n := ⟨_, rfl⟩
  obtain ⟨r, hr⟩ : ∃ r, validL l sy ct = r := ⟨_, rfl⟩
  rw [hcs, hn, hr]
  refine does_p KK (fn := Try.f28) Try.func28 rfl (by show 1 ≤ _; decide) ?_
  intro C F p hC hF hp
  have c1 : p.cmp .geq sy 0 = decide (sy ≥ 0) := p_cmp_geq hp
  have c2 : p.cmp .leq sy (p.zi n) = decide (sy ≤ (n : Int)) := by rw [p_cmp_leq hp, p_zi hp]
  have c3 : p.cmp .geq ct 0 = decide (ct ≥ 0) := p_cmp_geq hp
  have c4 : p.cmp .leq ct 1048576 = decide (ct ≤ 1048576) := p_cmp_leq hp
  unfold validL at hr
  rw [hn, ← c1, ← c2, ← c3, ← c4] at hr
  cases h1 : p.cmp .geq sy 0 <;> cases h2 : p.cmp .leq sy (p.zi n) <;> cases h3 : p.cmp .geq ct 0 <;> cases h4 : p.cmp .leq ct 1048576 <;> (
    rw [h1, h2, h3, h4] at hr
    subst hr
    conv => cbv
    repeat (simp only [h1, h2, h3, h4]; conv => cbv)
    exact back_same rfl)
end Go.Proofs.Ytmkbnmjhkghdjaa
