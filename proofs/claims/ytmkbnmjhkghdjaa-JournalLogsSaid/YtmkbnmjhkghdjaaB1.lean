/- Chapter 20: the document's Encode. -/
import Derived.Test.YtmkbnmjhkghdjaaV1
set_option linter.unusedVariables false
set_option linter.unusedSimpArgs false
namespace Go.Proofs.Ytmkbnmjhkghdjaa
open Go.RowKit
set_option maxHeartbeats 4000000
set_option maxRecDepth 10000
theorem rencode_o (n : Int) (k : Nat) (l : List UInt8) (hk : k < 256) (hl : l.length ≤ 1000000) : DoesO Try.prog (fun _ => none) 13 [aInt .i64 n, .agg [aInt .u8 k, .d (bD l)]] [] (.tup [.d (bD (encodeR n k l).1), aInt .u8 (encodeR n k l).2]) [] := by
  obtain ⟨ki, hki⟩ : ∃ i : Int, (k : Int) = i := ⟨_, rfl⟩
  obtain ⟨R, hR⟩ : ∃ R, encodeR n k l = R := ⟨_, rfl⟩
  rw [hki, hR]
  obtain ⟨R1, R2⟩ := R
  unfold bD
  obtain ⟨cr, hcr⟩ : ∃ cs, bytesD R1 = cs := ⟨_, rfl⟩
  obtain ⟨nr, hnr⟩ : ∃ n, R1.length = n := ⟨_, rfl⟩
  dsimp only
  rw [hcr, hnr]
  obtain ⟨cs, hcs⟩ : ∃ cs, bytesD l = cs := ⟨_, rfl⟩
  obtain ⟨m, hm⟩ : ∃ n, l.length = n := ⟨_, rfl⟩
  rw [hcs, hm]
  have hcl : cs.length = m := by rw [← hcs, bytesD_length, hm]
  rw [hm] at hl
  unfold encodeR at hR
  refine does_p KK (fn := Try.f13) Try.func13 rfl (by show 2 ≤ _; decide) ?_
  intro C F p hC hF hp
  by_cases h0 : n < 0 ∨ n > 1048575
  · rw [if_pos h0] at hR
    cases hR
    subst hcr hnr
    rcases h0 with h0 | h0
    · conv => cbv
      have e1 : (p.cmp .lss n 0) = true := by rw [p_cmp_lss hp]; exact decide_eq_true (by omega)
      simp only [e1]; clear e1
      conv => cbv
      exact back_tell (wk_tup (wk_cons wk_nil (wk_cons (wk_same rfl rfl) wk_end)))
    · conv => cbv
      have e3 : (p.cmp .lss n 0) = false := by rw [p_cmp_lss hp]; exact decide_eq_false (by omega)
      simp only [e3]; clear e3
      conv => cbv
      have e4 : (p.cmp .geq n 1048576) = true := by rw [p_cmp_geq hp]; exact decide_eq_true (by omega)
      simp only [e4]; clear e4
      conv => cbv
      exact back_tell (wk_tup (wk_cons wk_nil (wk_cons (wk_same rfl rfl) wk_end)))
  rw [if_neg h0] at hR
  by_cases h2 : m > 4096
  · rw [if_pos (by omega)] at hR
    cases hR
    subst hcr hnr
    conv => cbv
    have e6 : (p.cmp .lss n 0) = false := by rw [p_cmp_lss hp]; exact decide_eq_false (by omega)
    simp only [e6]; clear e6
    conv => cbv
    have e8 : (p.cmp .geq n 1048576) = false := by rw [p_cmp_geq hp]; exact decide_eq_false (by omega)
    simp only [e8]; clear e8
    conv => cbv
    obtain ⟨z9, hz9⟩ : ∃ z : Int, z = ((m : Nat) : Int) := ⟨_, rfl⟩
    have ez9 : (p.zi m) = z9 := by rw [hz9]; exact p_zi hp
    simp only [ez9]
    conv => cbv
    have e10 : (p.cmp .gtr z9 4096) = true := by rw [p_cmp_gtr hp]; exact decide_eq_true (by omega)
    simp only [e10]; clear e10
    conv => cbv
    exact back_tell (wk_tup (wk_cons wk_nil (wk_cons (wk_same rfl rfl) wk_end)))
  rw [if_neg (by omega)] at hR
  cases hR
  conv => cbv
  have e12 : (p.cmp .lss n 0) = false := by rw [p_cmp_lss hp]; exact decide_eq_false (by omega)
  simp only [e12]; clear e12
  conv => cbv
  have e14 : (p.cmp .geq n 1048576) = false := by rw [p_cmp_geq hp]; exact decide_eq_false (by omega)
  simp only [e14]; clear e14
  conv => cbv
  obtain ⟨z15, hz15⟩ : ∃ z : Int, z = ((m : Nat) : Int) := ⟨_, rfl⟩
  have ez15 : (p.zi m) = z15 := by rw [hz15]; exact p_zi hp
  simp only [ez15]
  conv => cbv
  have e17 : (p.cmp .gtr z15 4096) = false := by rw [p_cmp_gtr hp]; exact decide_eq_false (by omega)
  simp only [e17]; clear e17
  conv => cbv
  refine call_E hC (by kernel_rfl) (number_v (by omega) (by omega) (by omega) (by omega)) ?_; rintro c18 ⟨hc18, lc18⟩; refine ⟨by decide_cbv, ?_⟩
  conv => cbv
  obtain ⟨z19, hz19⟩ : ∃ z : Nat, z = (c18).length := ⟨_, rfl⟩
  have ez19 : (p.len c18) = z19 := by rw [hz19]; exact p_len hp
  simp only [ez19]
  conv => cbv
  have ez20 : (p.nm 4 1) = 4 := by rw [hp]; rfl
  simp only [ez20]; clear ez20
  conv => cbv
  have e21 : (p.neq z19 4) = true := p_neq hp (by omega)
  simp only [e21]; clear e21
  conv => cbv
  have e22 : (p.neq 2 2) = true := p_neq hp (by omega)
  simp only [e22]; clear e22
  conv => cbv
  have e24 : (p.neq 2 0) = false := p_neqf hp (by omega)
  simp only [e24]; clear e24
  conv => cbv
  have e26 : (p.neq 4 0) = false := p_neqf hp (by omega)
  simp only [e26]; clear e26
  conv => cbv
  have ez27 : (p.nm 2 1) = 2 := by rw [hp]; rfl
  simp only [ez27]; clear ez27
  conv => cbv
  have ez28 : (p.na 0 2) = 2 := by rw [hp]; rfl
  simp only [ez28]; clear ez28
  conv => cbv
  have ez29 : (p.len ([DV.val (Value.int .u8 167), DV.val (Value.int .u8 ki)])) = 2 := by rw [hp]; rfl
  simp only [ez29]; clear ez29
  conv => cbv
  have e30 : (p.nle 2 2) = true := p_nle hp (by omega)
  simp only [e30]; clear e30
  conv => cbv
  have e31 : (p.fit 2 4 1) = true := p_fit hp (by omega) (by show _ ≤ 9223372036854775807; omega)
  simp only [e31]; clear e31
  conv => cbv
  simp only [ez15]
  conv => cbv
  have ez32 : (p.cut ([DV.val (Value.int .u8 167), DV.val (Value.int .u8 ki)]) 0 2) = [(DV.val (Value.int .u8 167)), (DV.val (Value.int .u8 ki))] := by rw [hp]; rfl
  simp only [ez32]; clear ez32
  conv => cbv
  obtain ⟨z33, hz33⟩ : ∃ z : List DV, z = ([DV.val (Value.int .u8 167), DV.val (Value.int .u8 ki)]) ++ c18 := ⟨_, rfl⟩
  have ez33 : (p.app ([DV.val (Value.int .u8 167), DV.val (Value.int .u8 ki)]) c18) = z33 := by rw [hz33]; exact p_app hp
  simp only [ez33]
  have lz33 : z33.length = 2 + (c18).length := by rw [hz33]; simp only [List.length_append, List.length_cons, List.length_nil] <;> omega
  conv => cbv
  refine call_E hC (by kernel_rfl) (number_v (by omega) (by omega) (by omega) (by omega)) ?_; rintro c34 ⟨hc34, lc34⟩; refine ⟨by decide_cbv, ?_⟩
  conv => cbv
  obtain ⟨z35, hz35⟩ : ∃ z : Nat, z = (c34).length := ⟨_, rfl⟩
  have ez35 : (p.len c34) = z35 := by rw [hz35]; exact p_len hp
  simp only [ez35]
  conv => cbv
  have ez36 : (p.nm 2 1) = 2 := by rw [hp]; rfl
  simp only [ez36]; clear ez36
  conv => cbv
  have e37 : (p.neq z35 2) = true := p_neq hp (by omega)
  simp only [e37]; clear e37
  conv => cbv
  have e38 : (p.neq 0 0) = true := p_neq hp (by omega)
  simp only [e38]; clear e38
  conv => cbv
  have ez39 : (p.na 2 4) = 6 := by rw [hp]; rfl
  simp only [ez39]; clear ez39
  conv => cbv
  have ez40 : (p.nm 6 1) = 6 := by rw [hp]; rfl
  simp only [ez40]; clear ez40
  conv => cbv
  obtain ⟨z41, hz41⟩ : ∃ z : Nat, z = (z33).length := ⟨_, rfl⟩
  have ez41 : (p.len z33) = z41 := by rw [hz41]; exact p_len hp
  simp only [ez41]
  conv => cbv
  have e42 : (p.neq 6 z41) = true := p_neq hp (by omega)
  simp only [e42]; clear e42
  conv => cbv
  have e43 : (p.fit 6 2 1) = true := p_fit hp (by omega) (by show _ ≤ 9223372036854775807; omega)
  simp only [e43]; clear e43
  conv => cbv
  simp only [ez15]
  conv => cbv
  obtain ⟨z44, hz44⟩ : ∃ z : Int, z = 65535 - z15 := ⟨_, rfl⟩
  have ez44 : (p.ar .sub .i64 65535 z15) = z44 := by rw [hz44]; exact p_sub hp (by omega) (by omega)
  simp only [ez44]
  conv => cbv
  obtain ⟨z45, hz45⟩ : ∃ z : List DV, z = z33 ++ c34 := ⟨_, rfl⟩
  have ez45 : (p.app z33 c34) = z45 := by rw [hz45]; exact p_app hp
  simp only [ez45]
  have lz45 : z45.length = (z33).length + (c34).length := by rw [hz45]; simp only [List.length_append, List.length_cons, List.length_nil] <;> omega
  conv => cbv
  refine call_E hC (by kernel_rfl) (number_v (by omega) (by omega) (by omega) (by omega)) ?_; rintro c46 ⟨hc46, lc46⟩; refine ⟨by decide_cbv, ?_⟩
  conv => cbv
  obtain ⟨z47, hz47⟩ : ∃ z : Nat, z = (c46).length := ⟨_, rfl⟩
  have ez47 : (p.len c46) = z47 := by rw [hz47]; exact p_len hp
  simp only [ez47]
  conv => cbv
  have ez48 : (p.nm 2 1) = 2 := by rw [hp]; rfl
  simp only [ez48]; clear ez48
  conv => cbv
  have e49 : (p.neq z47 2) = true := p_neq hp (by omega)
  simp only [e49]; clear e49
  conv => cbv
  have e50 : (p.neq 0 0) = true := p_neq hp (by omega)
  simp only [e50]; clear e50
  conv => cbv
  have ez51 : (p.na 6 2) = 8 := by rw [hp]; rfl
  simp only [ez51]; clear ez51
  conv => cbv
  have ez52 : (p.nm 8 1) = 8 := by rw [hp]; rfl
  simp only [ez52]; clear ez52
  conv => cbv
  obtain ⟨z53, hz53⟩ : ∃ z : Nat, z = (z45).length := ⟨_, rfl⟩
  have ez53 : (p.len z45) = z53 := by rw [hz53]; exact p_len hp
  simp only [ez53]
  conv => cbv
  have e54 : (p.neq 8 z53) = true := p_neq hp (by omega)
  simp only [e54]; clear e54
  conv => cbv
  have e55 : (p.fit 8 2 1) = true := p_fit hp (by omega) (by show _ ≤ 9223372036854775807; omega)
  simp only [e55]; clear e55
  conv => cbv
  obtain ⟨z56, hz56⟩ : ∃ z : Nat, z = (cs).length := ⟨_, rfl⟩
  have ez56 : (p.len cs) = z56 := by rw [hz56]; exact p_len hp
  simp only [ez56]
  conv => cbv
  obtain ⟨z57, hz57⟩ : ∃ z : Nat, z = m * 1 := ⟨_, rfl⟩
  have ez57 : (p.nm m 1) = z57 := by rw [hz57]; exact p_nm hp
  simp only [ez57]
  conv => cbv
  have e58 : (p.neq z56 z57) = true := p_neq hp (by omega)
  simp only [e58]; clear e58
  conv => cbv
  have e59 : (p.neq 0 0) = true := p_neq hp (by omega)
  simp only [e59]; clear e59
  conv => cbv
  have ez60 : (p.na 8 2) = 10 := by rw [hp]; rfl
  simp only [ez60]; clear ez60
  conv => cbv
  have ez61 : (p.nm 10 1) = 10 := by rw [hp]; rfl
  simp only [ez61]; clear ez61
  conv => cbv
  obtain ⟨z62, hz62⟩ : ∃ z : List DV, z = z45 ++ c46 := ⟨_, rfl⟩
  have ez62 : (p.app z45 c46) = z62 := by rw [hz62]; exact p_app hp
  simp only [ez62]
  have lz62 : z62.length = (z45).length + (c46).length := by rw [hz62]; simp only [List.length_append, List.length_cons, List.length_nil] <;> omega
  conv => cbv
  obtain ⟨z63, hz63⟩ : ∃ z : Nat, z = (z62).length := ⟨_, rfl⟩
  have ez63 : (p.len z62) = z63 := by rw [hz63]; exact p_len hp
  simp only [ez63]
  conv => cbv
  have e64 : (p.neq 10 z63) = true := p_neq hp (by omega)
  simp only [e64]; clear e64
  conv => cbv
  have e65 : (p.fit 10 m 1) = true := p_fit hp (by omega) (by show _ ≤ 9223372036854775807; omega)
  simp only [e65]; clear e65
  conv => cbv
  obtain ⟨z66, hz66⟩ : ∃ z : Nat, z = 10 + m := ⟨_, rfl⟩
  have ez66 : (p.na 10 m) = z66 := by rw [hz66]; exact p_na hp
  simp only [ez66]
  conv => cbv
  obtain ⟨z67, hz67⟩ : ∃ z : List DV, z = z62 ++ cs := ⟨_, rfl⟩
  have ez67 : (p.app z62 cs) = z67 := by rw [hz67]; exact p_app hp
  simp only [ez67]
  have lz67 : z67.length = (z62).length + (cs).length := by rw [hz67]; simp only [List.length_append, List.length_cons, List.length_nil] <;> omega
  conv => cbv
  have hB : bytesD (headR n.toNat k m ++ l) = z67 := by
    rw [hz67, hz62, hz45, hz33, ← hc18, ← hc34, ← hc46, ← hcs, bytesD_append, show z15.toNat = m from by omega, show z44.toNat = 65535 - m from by omega, ← hki]
    have hk2 : k % 256 = k := Nat.mod_eq_of_lt hk
    simp [headR, enc, bytesD_append, beN, bytesD, hk2, List.append_assoc]
  have hBl : (headR n.toNat k m ++ l).length = z66 := by
    have := congrArg List.length hB
    rw [bytesD_length] at this
    omega
  conv => cbv
  refine call_E hC (by kernel_rfl) (rcheck_v (headR n.toNat k m ++ l) rfl (by assumption) (by assumption) (by omega)) ?_; rintro c69 ⟨hc69, lc69, mc69⟩; refine ⟨by decide_cbv, ?_⟩
  conv => cbv
  obtain ⟨z70, hz70⟩ : ∃ z : Int, z = c69 := ⟨_, rfl⟩
  have ez70 : (p.wr .i64 c69) = z70 := by rw [hz70]; exact p_wri64 hp (by omega) (by omega)
  simp only [ez70]
  conv => cbv
  refine call_E hC (by kernel_rfl) (number_v (by omega) (by omega) (by omega) (by omega)) ?_; rintro c71 ⟨hc71, lc71⟩; refine ⟨by decide_cbv, ?_⟩
  conv => cbv
  obtain ⟨z72, hz72⟩ : ∃ z : Nat, z = (c71).length := ⟨_, rfl⟩
  have ez72 : (p.len c71) = z72 := by rw [hz72]; exact p_len hp
  simp only [ez72]
  conv => cbv
  have ez73 : (p.nm 4 1) = 4 := by rw [hp]; rfl
  simp only [ez73]; clear ez73
  conv => cbv
  have e74 : (p.neq z72 4) = true := p_neq hp (by omega)
  simp only [e74]; clear e74
  conv => cbv
  have e75 : (p.neq 0 0) = true := p_neq hp (by omega)
  simp only [e75]; clear e75
  conv => cbv
  obtain ⟨z76, hz76⟩ : ∃ z : Nat, z = z66 * 1 := ⟨_, rfl⟩
  have ez76 : (p.nm z66 1) = z76 := by rw [hz76]; exact p_nm hp
  simp only [ez76]
  conv => cbv
  obtain ⟨z77, hz77⟩ : ∃ z : Nat, z = (z67).length := ⟨_, rfl⟩
  have ez77 : (p.len z67) = z77 := by rw [hz77]; exact p_len hp
  simp only [ez77]
  conv => cbv
  have e78 : (p.neq z76 z77) = true := p_neq hp (by omega)
  simp only [e78]; clear e78
  conv => cbv
  have e79 : (p.fit z66 4 1) = true := p_fit hp (by omega) (by show _ ≤ 9223372036854775807; omega)
  simp only [e79]; clear e79
  conv => cbv
  have q1 : p.app z67 c71 = cr := by
    rw [p_app hp, ← hB, ← hc71, hz70, ← hc69, ← bytesD_append, ← hcr]
    unfold recR
    rw [hm]
    rfl
  have q2 : p.na z66 4 = nr := by
    rw [p_na hp, ← hnr, ← hBl]
    unfold recR
    rw [hm]
    simp only [List.length_append, beN_length]
  simp only [q1, q2]
  have lcr : cr.length = nr := by rw [← hcr, bytesD_length, hnr]
  exact back_tell (wk_tup (wk_cons (wk_row (cs := cr) (e := 5) (sz := 1) (wr := true) rfl (by rw [List.drop_zero, List.take_of_length_le (by omega)])) (wk_cons (wk_same rfl rfl) wk_end)))
end Go.Proofs.Ytmkbnmjhkghdjaa
