/- Chapter 20: a copy of bytes, as a row of the caller's. -/
import Derived.Test.YtmkbnmjhkghdjaaV3
set_option linter.unusedVariables false
set_option linter.unusedSimpArgs false
namespace Go.Proofs.Ytmkbnmjhkghdjaa
open Go.RowKit
set_option maxHeartbeats 4000000
set_option maxRecDepth 10000
theorem copiedw_o {n : Nat} {cs : List DV} (hl : n ≤ 1000000000) (hc : cs.length = n) : DoesO Try.prog (fun _ => none) 38 [.d (.dl cs n none)] [] (.sl 1 0 n none) [(1, .data 5 1 cs true)] := by
  refine does_p KK (fn := Try.f38) Try.func38 rfl (by show 1 ≤ _; decide) ?_
  intro C F p hC hF hp
  conv => cbv
  have ez1 : (p.len cs) = n := by rw [p_len hp]; exact hc
  simp only [ez1]; clear ez1
  conv => cbv
  have ez2 : (p.nm n 1) = n := by rw [p_nm hp]; omega
  simp only [ez2]; clear ez2
  conv => cbv
  have e3 : (p.neq n n) = true := p_neq hp (by omega)
  simp only [e3]; clear e3
  conv => cbv
  have e4 : (p.fit 0 n 1) = true := p_fit hp (by omega) (by show _ ≤ 9223372036854775807; omega)
  simp only [e4]; clear e4
  conv => cbv
  have ez5 : (p.na 0 n) = n := by rw [p_na hp]; omega
  simp only [ez5]; clear ez5
  conv => cbv
  have ez6 : (p.app [] cs) = cs := by rw [p_app hp]; rfl
  simp only [ez6]; clear ez6
  conv => cbv
  exact back_obj [(1, 1202)] rfl rfl ⟨⟨rfl, rfl, rfl⟩, trivial⟩ rfl rfl
theorem copied_w {na : Nat} {a : List UInt8} {ca : List DV} {rd : Nat → Option AO} {r : Nat} (hl : na ≤ 1000000000) (ha : bytesD a = ca) (hna : a.length = na) (hr : rd r = none) : Does Try.prog (fun _ => none) 38 [.d (.dl ca na none)] [r] (.sl r 0 na none) [(r, .data 5 1 ca true)] rd :=
  does_own1 (copiedw_o hl (by rw [← ha, bytesD_length, hna])) rfl hr
end Go.Proofs.Ytmkbnmjhkghdjaa
