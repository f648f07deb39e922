/- Chapter 20: copies of bytes. -/
import Derived.Test.YtmkbnmjhkghdjaaA5
set_option linter.unusedVariables false
set_option linter.unusedSimpArgs false
namespace Go.Proofs.Ytmkbnmjhkghdjaa
open Go.RowKit
set_option maxHeartbeats 2000000
theorem copied_o (l : List UInt8) (hl : l.length ≤ 1000000000) : DoesO Try.prog (fun _ => none) 38 [.d (bD l)] [] (.d (bD l)) [] := by
  unfold bD
  obtain ⟨cs, hcs⟩ : ∃ cs, bytesD l = cs := ⟨_, rfl⟩
  obtain ⟨n, hn⟩ : ∃ n, l.length = n := ⟨_, rfl⟩
  rw [hcs, hn]
  refine does_p KK (fn := Try.f38) Try.func38 rfl (by show 1 ≤ _; decide) ?_
  intro C F p hC hF hp
  have hlen : cs.length = n := by rw [← hcs, bytesD_length, hn]
  have e1 : p.neq (p.len cs) (p.nm n 1) = true := p_neq hp (by rw [p_len hp, p_nm hp]; omega)
  have e2 : p.fit 0 n 1 = true := p_fit hp (by omega) (by show _ ≤ 9223372036854775807; omega)
  conv => cbv
  have e3 : p.na 0 n = n := by rw [p_na hp, Nat.zero_add]
  have e4 : p.app [] cs = cs := by rw [p_app hp, List.nil_append]
  repeat (simp only [e1, e2, e3, e4]; conv => cbv)
  exact back_tell (wk_row (cs := cs) (e := 5) (sz := 1) (wr := true) rfl (by rw [List.drop_zero, List.take_of_length_le (by omega)]))
theorem joined_o (a b : List UInt8) (hl : a.length + b.length ≤ 1000000000) : DoesO Try.prog (fun _ => none) 37 [.d (bD a), .d (bD b)] [] (.d (bD (a ++ b))) [] := by
  unfold bD
  obtain ⟨ca, hca⟩ : ∃ cs, bytesD a = cs := ⟨_, rfl⟩
  obtain ⟨na, hna⟩ : ∃ n, a.length = n := ⟨_, rfl⟩
  obtain ⟨cb, hcb⟩ : ∃ cs, bytesD b = cs := ⟨_, rfl⟩
  obtain ⟨nb, hnb⟩ : ∃ n, b.length = n := ⟨_, rfl⟩
  obtain ⟨cc, hcc⟩ : ∃ cs, bytesD (a ++ b) = cs := ⟨_, rfl⟩
  obtain ⟨nc, hnc⟩ : ∃ n, (a ++ b).length = n := ⟨_, rfl⟩
  rw [hca, hna, hcb, hnb, hcc, hnc]
  refine does_p KK (fn := Try.f37) Try.func37 rfl (by show 2 ≤ _; decide) ?_
  intro C F p hC hF hp
  obtain ⟨s, hs⟩ : ∃ s, p.ar .add .i64 (p.zi na) (p.zi nb) = s := ⟨_, rfl⟩
  have hs' : s = (nc : Int) := by rw [← hs, p_zi hp, p_zi hp, p_add hp (by omega) (by omega), ← hnc, ← hna, ← hnb, List.length_append]; omega
  have hnn : na + nb = nc := by rw [← hnc, ← hna, ← hnb, List.length_append]
  have j1 : p.mks s s 1 = true := by rw [hs', hp]; exact decide_eq_true (by refine ⟨by omega, by omega, by omega, ?_⟩; show (nc : Int) ≤ ((9223372036854775807 : Nat) : Int); omega)
  have j2 : p.tn s = nc := by rw [hs', hp]; rfl
  obtain ⟨z, hz⟩ : ∃ z, p.rep nc [.val (.int .u8 0)] = z := ⟨_, rfl⟩
  have la : ca.length = na := by rw [← hca, bytesD_length, hna]
  have lb : cb.length = nb := by rw [← hcb, bytesD_length, hnb]
  have lz : z.length = nc := by rw [← hz, p_rep hp, repD_length]
  obtain ⟨z1, hz1⟩ : ∃ z1, p.spl z 0 ca = z1 := ⟨_, rfl⟩
  have hz1' : z1 = ca ++ z.drop na := by rw [← hz1, p_spl hp, ← la]; cases z <;> rfl
  have lz1 : z1.length = nc := by rw [hz1', List.length_append, List.length_drop, la, lz]; omega
  have k1 : p.neq (p.len ca) (p.nm na 1) = true := p_neq hp (by rw [p_len hp, p_nm hp]; omega)
  have k2 : p.nle (p.na 0 (p.nm nc 1)) (p.len z) = true := p_nle hp (by rw [p_len hp, p_nm hp, p_na hp]; omega)
  have k3 : p.nmin na nc = na := by rw [p_nmin hp]; omega
  have k4 : p.cut ca 0 (p.nm na 1) = ca := p_cutAll hp (by rw [p_nm hp]; omega)
  have k5 : p.ixle (p.zi na) nc = some na := p_ixle hp (p_zi hp) (by omega)
  have k6 : p.na 0 (p.nm na 1) = na := by rw [p_nm hp, p_na hp]; omega
  have k7 : p.ns nc na = nb := by rw [p_ns hp]; omega
  have k8 : p.nle (p.na na (p.nm nb 1)) (p.len z1) = true := p_nle hp (by rw [p_len hp, p_nm hp, p_na hp]; omega)
  have k9 : p.neq (p.len cb) (p.nm nb 1) = true := p_neq hp (by rw [p_len hp, p_nm hp]; omega)
  have k10 : p.nmin nb nb = nb := by rw [p_nmin hp]; omega
  have k11 : p.cut cb 0 (p.nm nb 1) = cb := p_cutAll hp (by rw [p_nm hp]; omega)
  have k12 : p.spl z1 na cb = cc := by
    rw [p_spl hp, hz1', ← la, splice_app, splice_zero, ← hcc, bytesD_append, hca, hcb, List.drop_drop, List.drop_eq_nil_iff.2 (by omega), List.append_nil]
  have lc : cc.length = nc := by rw [← hcc, bytesD_length, hnc]
  conv => cbv
  simp only [hs]
  repeat (simp only [j1, j2, hz, k1, k2, k3, k4, hz1, k5, k6, k7, k8, k9, k10, k11, k12]; conv => cbv)
  exact back_tell (wk_row (cs := cc) (e := 5) (sz := 1) (wr := true) rfl (by rw [List.drop_zero, List.take_of_length_le (by omega)]))
end Go.Proofs.Ytmkbnmjhkghdjaa
