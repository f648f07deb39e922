/- Chapter 20: numbers as bytes, as the document gives them. -/
import Derived.Test.YtmkbnmjhkghdjaaA4
set_option linter.unusedVariables false
set_option linter.unusedSimpArgs false
namespace Go.Proofs.Ytmkbnmjhkghdjaa
open Go.RowKit
set_option maxHeartbeats 2000000
theorem beN_length (v : Nat) : ∀ k, (beN v k).length = k
  | 0 => rfl
  | k + 1 => by rw [beN, List.length_cons, beN_length v k]
theorem number_o (n k : Nat) (hn : n < 9223372036854775807) (hk : k ≤ 4) : DoesO Try.prog (fun _ => none) 34 [aInt .i64 n, aInt .i64 k] [] (.d (.dl (bytesD (beN n k)) k none)) [] := by
  obtain ⟨ni, hni⟩ : ∃ i : Int, (n : Int) = i := ⟨_, rfl⟩
  obtain ⟨ki, hki⟩ : ∃ i : Int, (k : Int) = i := ⟨_, rfl⟩
  obtain ⟨c1, hc1⟩ : ∃ c1, bytesD (beN n k) = c1 := ⟨_, rfl⟩
  rw [hni, hki, hc1]
  refine does_p KK (fn := Try.f34) Try.func34 rfl (by show 2 ≤ _; decide) ?_
  intro C F p hC hF hp
  conv => cbv
  refine loop_p KK hC hF hp (fun (x : Int × Int × List DV × Nat) => ⟨21, [(6, aInt .i64 x.1), (0, aInt .i64 x.2.1), (5, .d (.dl x.2.2.1 x.2.2.2 none)), (1, aInt .i64 ki)], []⟩)
    (fun x => ∃ i : Nat, x.1 = i ∧ i ≤ k ∧ x.2.1 = ((n / 256 ^ i : Nat) : Int) ∧ x.2.2.1 = bytesD (beN n i) ∧ x.2.2.2 = i) (fun x => k - x.1.toNat) (0, ni, [], 0)
    (tells_data ⟨wk_same rfl rfl, wk_same rfl rfl, wk_nil, wk_same rfl rfl, trivial⟩) ⟨0, rfl, by omega, by rw [← hni]; simp, rfl, rfl⟩ ?_
  rintro ⟨ii, mi, cs, m⟩ ⟨i, h1, hik, h2, h3, h4⟩
  dsimp only at h1 h2 h3 h4
  have hlt : n / 256 ^ i ≤ n := Nat.div_le_self _ _
  generalize hd : n / 256 ^ i = d at *
  by_cases hi : i < k
  · have e1 : p.cmp .lss ii ki = true := by rw [p_cmp_lss hp, h1, ← hki]; exact decide_eq_true (by omega)
    have e2 : p.neq (p.len cs) (p.nm m 1) = true := p_neq hp (by rw [p_len hp, p_nm hp, h3, bytesD_length, h4, beN_length]; omega)
    have a1 : p.ar .add .i64 ii 1 = ((i + 1 : Nat) : Int) := by rw [h1, p_add hp (by omega) (by omega)]; rfl
    have a2 : p.ar .quo .i64 mi 256 = ((n / 256 ^ (i + 1) : Nat) : Int) := by
      rw [h2]
      exact (p_quo (a := d) (b := 256) hp (by omega)).trans (by rw [← hd, Nat.div_div_eq_div_mul]; rfl)
    have a3 : p.wr .u8 (p.ar .rem .i64 mi 256) = ((UInt8.ofNat (n / 2 ^ (8 * i))).toNat : Nat) := by
      have q : p.ar .rem .i64 mi 256 = ((d % 256 : Nat) : Int) := by rw [h2]; exact p_rem (b := 256) hp
      rw [q, p_wr8 hp, ← hd, Nat.pow_mul]
      congr 2
      rw [← UInt8.toNat_inj]; simp
    have hmu : k - (p.ar .add .i64 ii 1).toNat < k - ii.toNat := by rw [a1, h1]; omega
    by_cases hm0 : m = 0
    · have e3 : p.neq m 0 = true := p_neq hp hm0
      conv => cbv
      repeat (simp only [e1, e2, e3, p_neq11 hp, p_neq10 hp, p_nz256 hp, p_len1 hp, p_cut1 hp, p_nm1 hp, p_na01 hp, p_nle11 hp, p_neq00 hp]; conv => cbv)
      refine ⟨(p.ar .add .i64 ii 1, p.ar .quo .i64 mi 256, [.val (.int .u8 (p.wr .u8 (p.ar .rem .i64 mi 256)))], 1), ⟨i + 1, a1, hi, a2, ?_, by show 1 = i + 1; omega⟩, hmu,
        tells_data ⟨wk_same rfl rfl, wk_same rfl rfl, wk_row rfl rfl, wk_same rfl rfl, trivial⟩⟩
      have hi0 : i = 0 := by omega
      show [DV.val (.int .u8 (p.wr .u8 (p.ar .rem .i64 mi 256)))] = _
      rw [a3, hi0]; rfl
    · have e3 : p.neq m 0 = false := p_neqf hp hm0
      have e4 : p.fit 1 m 1 = true := p_fit hp (by omega) (by show _ ≤ 9223372036854775807; omega)
      have hcl : cs.length = m := by rw [h3, bytesD_length, beN_length, h4]
      conv => cbv
      repeat (simp only [e1, e2, e3, e4, p_neq11 hp, p_neq10 hp, p_nz256 hp, p_len1 hp, p_cut1 hp, p_nm1 hp, p_na01 hp, p_nle11 hp, p_neq00 hp]; conv => cbv)
      refine ⟨(p.ar .add .i64 ii 1, p.ar .quo .i64 mi 256, p.app [.val (.int .u8 (p.wr .u8 (p.ar .rem .i64 mi 256)))] cs, p.na 1 m), ⟨i + 1, a1, hi, a2, ?_, ?_⟩, hmu,
        tells_data ⟨wk_same rfl rfl, wk_same rfl rfl, wk_row rfl ?_, wk_same rfl rfl, trivial⟩⟩
      · show p.app _ cs = _
        rw [p_app hp, a3, h3]; rfl
      · show p.na 1 m = _
        rw [p_na hp]; omega
      · show List.take (p.na 1 m * 1) (List.drop 0 (p.app _ cs)) = p.app _ cs
        rw [p_app hp, p_na hp, List.drop_zero, List.take_of_length_le (by simp only [List.length_append, List.length_singleton]; omega)]
  · have e1 : p.cmp .lss ii ki = false := by rw [p_cmp_lss hp, h1, ← hki]; exact decide_eq_false (by omega)
    conv => cbv
    repeat (simp only [e1]; conv => cbv)
    have hik' : i = k := by omega
    have q1 : cs = c1 := by rw [h3, ← hc1, hik']
    have q2 : m = k := by omega
    rw [q1, q2]
    exact back_same rfl
end Go.Proofs.Ytmkbnmjhkghdjaa
