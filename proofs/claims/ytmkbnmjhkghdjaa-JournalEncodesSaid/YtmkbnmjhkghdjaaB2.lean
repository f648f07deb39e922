/- Chapter 20: the law JournalEncodes. -/
import Derived.Test.YtmkbnmjhkghdjaaV2
set_option linter.unusedVariables false
set_option linter.unusedSimpArgs false
namespace Go.Proofs.Ytmkbnmjhkghdjaa
open Go.RowKit
set_option maxHeartbeats 4000000
set_option maxRecDepth 10000
theorem encodes_o (n : Int) (k : Nat) (l b : List UInt8) (hk : k < 256) : DoesO Try.prog (fun _ => none) 3 [aInt .i64 n, .agg [aInt .u8 k, .d (bD l)], .d (bD b)] [] (aBool true) [] := by
  obtain ⟨ki, hki⟩ : ∃ i : Int, (k : Int) = i := ⟨_, rfl⟩
  rw [hki]
  unfold bD
  obtain ⟨cs, hcs⟩ : ∃ cs, bytesD l = cs := ⟨_, rfl⟩
  obtain ⟨m, hm⟩ : ∃ n, l.length = n := ⟨_, rfl⟩
  obtain ⟨cb, hcb⟩ : ∃ cs, bytesD b = cs := ⟨_, rfl⟩
  obtain ⟨mb, hmb⟩ : ∃ n, b.length = n := ⟨_, rfl⟩
  rw [hcs, hm, hcb, hmb]
  have hcl : cs.length = m := by rw [← hcs, bytesD_length, hm]
  have hbl : cb.length = mb := by rw [← hcb, bytesD_length, hmb]
  refine does_p KK (fn := Try.f3) Try.func3 rfl (by show 3 ≤ _; decide) ?_
  intro C F p hC hF hp
  by_cases hb0 : mb > 5000
  · conv => cbv
    obtain ⟨z1, hz1⟩ : ∃ z : Int, z = ((mb : Nat) : Int) := ⟨_, rfl⟩
    have ez1 : (p.zi mb) = z1 := by rw [hz1]; exact p_zi hp
    simp only [ez1]
    conv => cbv
    have e2 : (p.cmp .gtr z1 5000) = true := by rw [p_cmp_gtr hp]; exact decide_eq_true (by omega)
    simp only [e2]; clear e2
    conv => cbv
    refine call_p hC (by kernel_rfl) lives_v ⟨by decide_cbv, ?_⟩
    conv => cbv
    exact back_same rfl
  by_cases hm0 : m > 5000
  · conv => cbv
    obtain ⟨z4, hz4⟩ : ∃ z : Int, z = ((mb : Nat) : Int) := ⟨_, rfl⟩
    have ez4 : (p.zi mb) = z4 := by rw [hz4]; exact p_zi hp
    simp only [ez4]
    conv => cbv
    have e6 : (p.cmp .gtr z4 5000) = false := by rw [p_cmp_gtr hp]; exact decide_eq_false (by omega)
    simp only [e6]; clear e6
    conv => cbv
    obtain ⟨z7, hz7⟩ : ∃ z : Int, z = ((m : Nat) : Int) := ⟨_, rfl⟩
    have ez7 : (p.zi m) = z7 := by rw [hz7]; exact p_zi hp
    simp only [ez7]
    conv => cbv
    have e8 : (p.cmp .gtr z7 5000) = true := by rw [p_cmp_gtr hp]; exact decide_eq_true (by omega)
    simp only [e8]; clear e8
    conv => cbv
    refine call_p hC (by kernel_rfl) lives_v ⟨by decide_cbv, ?_⟩
    conv => cbv
    exact back_same rfl
  conv => cbv
  obtain ⟨z10, hz10⟩ : ∃ z : Int, z = ((mb : Nat) : Int) := ⟨_, rfl⟩
  have ez10 : (p.zi mb) = z10 := by rw [hz10]; exact p_zi hp
  simp only [ez10]
  conv => cbv
  have e12 : (p.cmp .gtr z10 5000) = false := by rw [p_cmp_gtr hp]; exact decide_eq_false (by omega)
  simp only [e12]; clear e12
  conv => cbv
  obtain ⟨z13, hz13⟩ : ∃ z : Int, z = ((m : Nat) : Int) := ⟨_, rfl⟩
  have ez13 : (p.zi m) = z13 := by rw [hz13]; exact p_zi hp
  simp only [ez13]
  conv => cbv
  have e15 : (p.cmp .gtr z13 5000) = false := by rw [p_cmp_gtr hp]; exact decide_eq_false (by omega)
  simp only [e15]; clear e15
  conv => cbv
  refine call_E hC (by kernel_rfl) (encode_v (l := l) hk hki (by omega) hcs hm) ?_; rintro ⟨L1, e1, c1, n1⟩ ⟨h1, b1, m1, w1⟩; dsimp only at h1 b1 m1 w1; refine ⟨by decide_cbv, ?_⟩
  conv => cbv
  refine call_E hC (by kernel_rfl) (rencode_v (l := l) hk hki (by omega) hcs hm) ?_; rintro ⟨Lc17, ec17, cc17, nc17⟩ ⟨hc17, bc17, mc17, wc17⟩; dsimp only at hc17 bc17 mc17 wc17; rw [h1] at hc17; cases hc17; refine ⟨by decide_cbv, ?_⟩
  conv => cbv
  refine call_E hC (by kernel_rfl) (check_v (l := b) (by omega) hcb hmb) ?_; rintro c18 ⟨hc18, lc18, mc18⟩; refine ⟨by decide_cbv, ?_⟩
  conv => cbv
  refine call_E hC (by kernel_rfl) (rcheckd_v (l := b) (by omega) hcb hmb) ?_; rintro c19 ⟨hc19, lc19, mc19⟩; refine ⟨by decide_cbv, ?_⟩
  conv => cbv
  have e20 : (p.cmp .eql c18 c19) = true := by rw [p_cmp_eql hp]; exact decide_eq_true (by omega)
  simp only [e20]; clear e20
  conv => cbv
  have ez21 : (p.len c1) = n1 := by rw [p_len hp]; exact w1
  simp only [ez21]; clear ez21
  conv => cbv
  obtain ⟨z22, hz22⟩ : ∃ z : Nat, z = n1 * 1 := ⟨_, rfl⟩
  have ez22 : (p.nm n1 1) = z22 := by rw [hz22]; exact p_nm hp
  simp only [ez22]
  conv => cbv
  have e23 : (p.neq n1 z22) = true := p_neq hp (by omega)
  simp only [e23]; clear e23
  conv => cbv
  simp only [p_sof hp b1]
  conv => cbv
  have ez24 : (p.len cc17) = nc17 := by rw [p_len hp]; exact wc17
  simp only [ez24]; clear ez24
  conv => cbv
  obtain ⟨z25, hz25⟩ : ∃ z : Nat, z = nc17 * 1 := ⟨_, rfl⟩
  have ez25 : (p.nm nc17 1) = z25 := by rw [hz25]; exact p_nm hp
  simp only [ez25]
  conv => cbv
  have e26 : (p.neq nc17 z25) = true := p_neq hp (by omega)
  simp only [e26]; clear e26
  conv => cbv
  simp only [p_sof hp bc17]
  conv => cbv
  have e27 : (p.seq ({ data := { toList := L1 } }) ({ data := { toList := L1 } })) = true := p_seqT hp rfl
  simp only [e27]; clear e27
  conv => cbv
  have e28 : (p.cmp .eql e1 e1) = true := by rw [p_cmp_eql hp]; exact decide_eq_true (by omega)
  simp only [e28]; clear e28
  conv => cbv
  refine call_p hC (by kernel_rfl) lives_v ⟨by decide_cbv, ?_⟩
  conv => cbv
  exact back_same rfl
end Go.Proofs.Ytmkbnmjhkghdjaa
