/- Chapter 18: Accept. -/
import Derived.Test.YtonejiaiieiboaaL
set_option linter.unusedVariables false
set_option linter.unusedSimpArgs false
namespace Go.Proofs.Ytonejiaiieiboaa
open Go.RowKit
set_option maxHeartbeats 4000000
set_option maxRecDepth 100000
def acceptR (last seq : Int) : Int × Bool := if (1 ≤ seq ∧ seq ≤ 2147483647) ∧ (last ≤ 0 ∨ (last < 2147483647 ∧ seq = last + 1)) then (seq, true) else (last, false)
theorem accept_o (last seq : Int) {r : Int} {ok : Bool} (hR : acceptR last seq = (r, ok)) : DoesO Try.prog (fun _ => none) 8 [aInt .i64 last, aInt .i64 seq] [] (.tup [aInt .i64 r, aBool ok]) [] := by
  unfold acceptR at hR
  refine does_p KK (fn := Try.f8) Try.func8 rfl (by show 2 ≤ _; decide) ?_
  intro C F p hC hF hp
  by_cases h1 : last ≤ 0
  · by_cases h2 : 1 ≤ seq
    · by_cases h3 : seq ≤ 2147483647
      · rw [if_pos ⟨⟨h2, h3⟩, .inl h1⟩] at hR
        cases hR
        conv => cbv
        have e1 : (p.cmp .leq last 0) = true := by rw [p_cmp_leq hp]; exact decide_eq_true (by omega)
        simp only [e1]; clear e1
        conv => cbv
        have e2 : (p.cmp .geq seq 1) = true := by rw [p_cmp_geq hp]; exact decide_eq_true (by omega)
        simp only [e2]; clear e2
        conv => cbv
        have e3 : (p.cmp .leq seq 2147483647) = true := by rw [p_cmp_leq hp]; exact decide_eq_true (by omega)
        simp only [e3]; clear e3
        conv => cbv
        exact back_same rfl
      · rw [if_neg (by omega)] at hR
        cases hR
        conv => cbv
        have e4 : (p.cmp .leq last 0) = true := by rw [p_cmp_leq hp]; exact decide_eq_true (by omega)
        simp only [e4]; clear e4
        conv => cbv
        have e5 : (p.cmp .geq seq 1) = true := by rw [p_cmp_geq hp]; exact decide_eq_true (by omega)
        simp only [e5]; clear e5
        conv => cbv
        have e7 : (p.cmp .leq seq 2147483647) = false := by rw [p_cmp_leq hp]; exact decide_eq_false (by omega)
        simp only [e7]; clear e7
        conv => cbv
        exact back_same rfl
    · rw [if_neg (by omega)] at hR
      cases hR
      conv => cbv
      have e8 : (p.cmp .leq last 0) = true := by rw [p_cmp_leq hp]; exact decide_eq_true (by omega)
      simp only [e8]; clear e8
      conv => cbv
      have e10 : (p.cmp .geq seq 1) = false := by rw [p_cmp_geq hp]; exact decide_eq_false (by omega)
      simp only [e10]; clear e10
      conv => cbv
      exact back_same rfl
  · by_cases h4 : last < 2147483647
    · by_cases h5 : seq = last + 1
      · rw [if_pos ⟨by omega, .inr ⟨h4, h5⟩⟩] at hR
        cases hR
        conv => cbv
        have e12 : (p.cmp .leq last 0) = false := by rw [p_cmp_leq hp]; exact decide_eq_false (by omega)
        simp only [e12]; clear e12
        conv => cbv
        have e13 : (p.cmp .lss last 2147483647) = true := by rw [p_cmp_lss hp]; exact decide_eq_true (by omega)
        simp only [e13]; clear e13
        conv => cbv
        obtain ⟨z14, hz14⟩ : ∃ z : Int, z = last + 1 := ⟨_, rfl⟩
        have ez14 : (p.ar .add .i64 last 1) = z14 := by rw [hz14]; exact p_add hp (by omega) (by omega)
        simp only [ez14]
        conv => cbv
        have e15 : (p.cmp .eql seq z14) = true := by rw [p_cmp_eql hp]; exact decide_eq_true (by omega)
        simp only [e15]; clear e15
        conv => cbv
        exact back_same rfl
      · rw [if_neg (by omega)] at hR
        cases hR
        by_cases h2 : 1 ≤ seq
        · by_cases h3 : seq ≤ 2147483647
          · conv => cbv
            have e17 : (p.cmp .leq last 0) = false := by rw [p_cmp_leq hp]; exact decide_eq_false (by omega)
            simp only [e17]; clear e17
            conv => cbv
            have e18 : (p.cmp .lss last 2147483647) = true := by rw [p_cmp_lss hp]; exact decide_eq_true (by omega)
            simp only [e18]; clear e18
            conv => cbv
            obtain ⟨z19, hz19⟩ : ∃ z : Int, z = last + 1 := ⟨_, rfl⟩
            have ez19 : (p.ar .add .i64 last 1) = z19 := by rw [hz19]; exact p_add hp (by omega) (by omega)
            simp only [ez19]
            conv => cbv
            have e21 : (p.cmp .eql seq z19) = false := by rw [p_cmp_eql hp]; exact decide_eq_false (by omega)
            simp only [e21]; clear e21
            conv => cbv
            exact back_same rfl
          · conv => cbv
            have e23 : (p.cmp .leq last 0) = false := by rw [p_cmp_leq hp]; exact decide_eq_false (by omega)
            simp only [e23]; clear e23
            conv => cbv
            have e24 : (p.cmp .lss last 2147483647) = true := by rw [p_cmp_lss hp]; exact decide_eq_true (by omega)
            simp only [e24]; clear e24
            conv => cbv
            obtain ⟨z25, hz25⟩ : ∃ z : Int, z = last + 1 := ⟨_, rfl⟩
            have ez25 : (p.ar .add .i64 last 1) = z25 := by rw [hz25]; exact p_add hp (by omega) (by omega)
            simp only [ez25]
            conv => cbv
            have e27 : (p.cmp .eql seq z25) = false := by rw [p_cmp_eql hp]; exact decide_eq_false (by omega)
            simp only [e27]; clear e27
            conv => cbv
            exact back_same rfl
        · conv => cbv
          have e29 : (p.cmp .leq last 0) = false := by rw [p_cmp_leq hp]; exact decide_eq_false (by omega)
          simp only [e29]; clear e29
          conv => cbv
          have e30 : (p.cmp .lss last 2147483647) = true := by rw [p_cmp_lss hp]; exact decide_eq_true (by omega)
          simp only [e30]; clear e30
          conv => cbv
          obtain ⟨z31, hz31⟩ : ∃ z : Int, z = last + 1 := ⟨_, rfl⟩
          have ez31 : (p.ar .add .i64 last 1) = z31 := by rw [hz31]; exact p_add hp (by omega) (by omega)
          simp only [ez31]
          conv => cbv
          have e33 : (p.cmp .eql seq z31) = false := by rw [p_cmp_eql hp]; exact decide_eq_false (by omega)
          simp only [e33]; clear e33
          conv => cbv
          exact back_same rfl
    · rw [if_neg (by omega)] at hR
      cases hR
      by_cases h2 : 1 ≤ seq
      · by_cases h3 : seq ≤ 2147483647
        · conv => cbv
          have e35 : (p.cmp .leq last 0) = false := by rw [p_cmp_leq hp]; exact decide_eq_false (by omega)
          simp only [e35]; clear e35
          conv => cbv
          have e37 : (p.cmp .lss last 2147483647) = false := by rw [p_cmp_lss hp]; exact decide_eq_false (by omega)
          simp only [e37]; clear e37
          conv => cbv
          exact back_same rfl
        · conv => cbv
          have e39 : (p.cmp .leq last 0) = false := by rw [p_cmp_leq hp]; exact decide_eq_false (by omega)
          simp only [e39]; clear e39
          conv => cbv
          have e41 : (p.cmp .lss last 2147483647) = false := by rw [p_cmp_lss hp]; exact decide_eq_false (by omega)
          simp only [e41]; clear e41
          conv => cbv
          exact back_same rfl
      · conv => cbv
        have e43 : (p.cmp .leq last 0) = false := by rw [p_cmp_leq hp]; exact decide_eq_false (by omega)
        simp only [e43]; clear e43
        conv => cbv
        have e45 : (p.cmp .lss last 2147483647) = false := by rw [p_cmp_lss hp]; exact decide_eq_false (by omega)
        simp only [e45]; clear e45
        conv => cbv
        exact back_same rfl
theorem raccept_o (last seq : Int) {r : Int} {ok : Bool} (hR : acceptR last seq = (r, ok)) : DoesO Try.prog (fun _ => none) 9 [aInt .i64 last, aInt .i64 seq] [] (.tup [aInt .i64 r, aBool ok]) [] := by
  unfold acceptR at hR
  refine does_p KK (fn := Try.f9) Try.func9 rfl (by show 2 ≤ _; decide) ?_
  intro C F p hC hF hp
  by_cases h1 : last ≤ 0
  · by_cases h2 : 1 ≤ seq
    · by_cases h3 : seq ≤ 2147483647
      · rw [if_pos ⟨⟨h2, h3⟩, .inl h1⟩] at hR
        cases hR
        conv => cbv
        have e47 : (p.cmp .lss seq 1) = false := by rw [p_cmp_lss hp]; exact decide_eq_false (by omega)
        simp only [e47]; clear e47
        conv => cbv
        have e49 : (p.cmp .gtr seq 2147483647) = false := by rw [p_cmp_gtr hp]; exact decide_eq_false (by omega)
        simp only [e49]; clear e49
        conv => cbv
        have e50 : (p.cmp .leq last 0) = true := by rw [p_cmp_leq hp]; exact decide_eq_true (by omega)
        simp only [e50]; clear e50
        conv => cbv
        exact back_same rfl
      · rw [if_neg (by omega)] at hR
        cases hR
        conv => cbv
        have e52 : (p.cmp .lss seq 1) = false := by rw [p_cmp_lss hp]; exact decide_eq_false (by omega)
        simp only [e52]; clear e52
        conv => cbv
        have e53 : (p.cmp .gtr seq 2147483647) = true := by rw [p_cmp_gtr hp]; exact decide_eq_true (by omega)
        simp only [e53]; clear e53
        conv => cbv
        exact back_same rfl
    · rw [if_neg (by omega)] at hR
      cases hR
      conv => cbv
      have e54 : (p.cmp .lss seq 1) = true := by rw [p_cmp_lss hp]; exact decide_eq_true (by omega)
      simp only [e54]; clear e54
      conv => cbv
      exact back_same rfl
  · by_cases h4 : last < 2147483647
    · by_cases h5 : seq = last + 1
      · rw [if_pos ⟨by omega, .inr ⟨h4, h5⟩⟩] at hR
        cases hR
        conv => cbv
        have e56 : (p.cmp .lss seq 1) = false := by rw [p_cmp_lss hp]; exact decide_eq_false (by omega)
        simp only [e56]; clear e56
        conv => cbv
        have e58 : (p.cmp .gtr seq 2147483647) = false := by rw [p_cmp_gtr hp]; exact decide_eq_false (by omega)
        simp only [e58]; clear e58
        conv => cbv
        have e60 : (p.cmp .leq last 0) = false := by rw [p_cmp_leq hp]; exact decide_eq_false (by omega)
        simp only [e60]; clear e60
        conv => cbv
        have e61 : (p.cmp .lss last 2147483647) = true := by rw [p_cmp_lss hp]; exact decide_eq_true (by omega)
        simp only [e61]; clear e61
        conv => cbv
        obtain ⟨z62, hz62⟩ : ∃ z : Int, z = last + 1 := ⟨_, rfl⟩
        have ez62 : (p.ar .add .i64 last 1) = z62 := by rw [hz62]; exact p_add hp (by omega) (by omega)
        simp only [ez62]
        conv => cbv
        have e63 : (p.cmp .eql seq z62) = true := by rw [p_cmp_eql hp]; exact decide_eq_true (by omega)
        simp only [e63]; clear e63
        conv => cbv
        exact back_same rfl
      · rw [if_neg (by omega)] at hR
        cases hR
        by_cases h2 : 1 ≤ seq
        · by_cases h3 : seq ≤ 2147483647
          · conv => cbv
            have e65 : (p.cmp .lss seq 1) = false := by rw [p_cmp_lss hp]; exact decide_eq_false (by omega)
            simp only [e65]; clear e65
            conv => cbv
            have e67 : (p.cmp .gtr seq 2147483647) = false := by rw [p_cmp_gtr hp]; exact decide_eq_false (by omega)
            simp only [e67]; clear e67
            conv => cbv
            have e69 : (p.cmp .leq last 0) = false := by rw [p_cmp_leq hp]; exact decide_eq_false (by omega)
            simp only [e69]; clear e69
            conv => cbv
            have e70 : (p.cmp .lss last 2147483647) = true := by rw [p_cmp_lss hp]; exact decide_eq_true (by omega)
            simp only [e70]; clear e70
            conv => cbv
            obtain ⟨z71, hz71⟩ : ∃ z : Int, z = last + 1 := ⟨_, rfl⟩
            have ez71 : (p.ar .add .i64 last 1) = z71 := by rw [hz71]; exact p_add hp (by omega) (by omega)
            simp only [ez71]
            conv => cbv
            have e73 : (p.cmp .eql seq z71) = false := by rw [p_cmp_eql hp]; exact decide_eq_false (by omega)
            simp only [e73]; clear e73
            conv => cbv
            exact back_same rfl
          · conv => cbv
            have e75 : (p.cmp .lss seq 1) = false := by rw [p_cmp_lss hp]; exact decide_eq_false (by omega)
            simp only [e75]; clear e75
            conv => cbv
            have e76 : (p.cmp .gtr seq 2147483647) = true := by rw [p_cmp_gtr hp]; exact decide_eq_true (by omega)
            simp only [e76]; clear e76
            conv => cbv
            exact back_same rfl
        · conv => cbv
          have e77 : (p.cmp .lss seq 1) = true := by rw [p_cmp_lss hp]; exact decide_eq_true (by omega)
          simp only [e77]; clear e77
          conv => cbv
          exact back_same rfl
    · rw [if_neg (by omega)] at hR
      cases hR
      by_cases h2 : 1 ≤ seq
      · by_cases h3 : seq ≤ 2147483647
        · conv => cbv
          have e79 : (p.cmp .lss seq 1) = false := by rw [p_cmp_lss hp]; exact decide_eq_false (by omega)
          simp only [e79]; clear e79
          conv => cbv
          have e81 : (p.cmp .gtr seq 2147483647) = false := by rw [p_cmp_gtr hp]; exact decide_eq_false (by omega)
          simp only [e81]; clear e81
          conv => cbv
          have e83 : (p.cmp .leq last 0) = false := by rw [p_cmp_leq hp]; exact decide_eq_false (by omega)
          simp only [e83]; clear e83
          conv => cbv
          have e85 : (p.cmp .lss last 2147483647) = false := by rw [p_cmp_lss hp]; exact decide_eq_false (by omega)
          simp only [e85]; clear e85
          conv => cbv
          exact back_same rfl
        · conv => cbv
          have e87 : (p.cmp .lss seq 1) = false := by rw [p_cmp_lss hp]; exact decide_eq_false (by omega)
          simp only [e87]; clear e87
          conv => cbv
          have e88 : (p.cmp .gtr seq 2147483647) = true := by rw [p_cmp_gtr hp]; exact decide_eq_true (by omega)
          simp only [e88]; clear e88
          conv => cbv
          exact back_same rfl
      · conv => cbv
        have e89 : (p.cmp .lss seq 1) = true := by rw [p_cmp_lss hp]; exact decide_eq_true (by omega)
        simp only [e89]; clear e89
        conv => cbv
        exact back_same rfl
theorem accept_v {last seq : Int} {rd : Nat → Option AO} : ∃ R : Int × Bool, acceptR last seq = (R.1, R.2) ∧ Does Try.prog (fun _ => none) 8 [aInt .i64 last, aInt .i64 seq] [] (.tup [aInt .i64 R.1, aBool R.2]) [] rd :=
  ⟨acceptR last seq, rfl, does_data (accept_o last seq rfl) rfl⟩
theorem raccept_v {last seq : Int} {rd : Nat → Option AO} : ∃ R : Int × Bool, acceptR last seq = (R.1, R.2) ∧ Does Try.prog (fun _ => none) 9 [aInt .i64 last, aInt .i64 seq] [] (.tup [aInt .i64 R.1, aBool R.2]) [] rd :=
  ⟨acceptR last seq, rfl, does_data (raccept_o last seq rfl) rfl⟩
theorem accepts_o (last seq : Int) : DoesO Try.prog (fun _ => none) 3 [aInt .i64 last, aInt .i64 seq] [] (aBool true) [] := by
  refine does_xp KK (l := []) trivial (fn := Try.f3) Try.func3 rfl (by show 2 ≤ _; decide) 400 1 ?_
  intro C F p hC hF hp
  by_cases h0 : seq = 0
  · conv => cbv
    have e90 : (p.cmp .lss 0 4) = true := by rw [p_cmp_lss hp]; exact decide_eq_true (by omega)
    simp only [e90]; clear e90
    conv => cbv
    have e91 : (p.ix 0 4) = some 0 := by rw [hp]; rfl
    simp only [e91]; clear e91
    conv => cbv
    have e93 : (p.cmp .neq seq seq) = false := by rw [p_cmp_neq hp]; exact decide_eq_false (by omega)
    simp only [e93]; clear e93
    conv => cbv
    refine call_E hC (by kernel_rfl) accept_v ?_; rintro ⟨ac94, bc94⟩ hA; dsimp only at hA
    conv => cbv
    refine call_E hC (by kernel_rfl) raccept_v ?_; rintro ⟨cc95, dc95⟩ hB; dsimp only at hB; rw [hA] at hB; simp only [Prod.mk.injEq] at hB; obtain ⟨rfl, rfl⟩ := hB; clear hA
    conv => cbv
    have e97 : (p.cmp .neq ac94 ac94) = false := by rw [p_cmp_neq hp]; exact decide_eq_false (by omega)
    simp only [e97]; clear e97
    conv => cbv
    have ez98 : (p.ar .add .i64 0 1) = (1) := by rw [hp]; rfl
    simp only [ez98]; clear ez98
    conv => cbv
    have e99 : (p.cmp .lss 1 4) = true := by rw [p_cmp_lss hp]; exact decide_eq_true (by omega)
    simp only [e99]; clear e99
    conv => cbv
    have e100 : (p.ix 1 4) = some 1 := by rw [hp]; rfl
    simp only [e100]; clear e100
    conv => cbv
    have e102 : (p.cmp .neq 0 seq) = false := by rw [p_cmp_neq hp]; exact decide_eq_false (by omega)
    simp only [e102]; clear e102
    conv => cbv
    refine call_E hC (by kernel_rfl) accept_v ?_; rintro ⟨ac103, bc103⟩ hA; dsimp only at hA
    conv => cbv
    refine call_E hC (by kernel_rfl) raccept_v ?_; rintro ⟨cc104, dc104⟩ hB; dsimp only at hB; rw [hA] at hB; simp only [Prod.mk.injEq] at hB; obtain ⟨rfl, rfl⟩ := hB; clear hA
    conv => cbv
    have e106 : (p.cmp .neq ac103 ac103) = false := by rw [p_cmp_neq hp]; exact decide_eq_false (by omega)
    simp only [e106]; clear e106
    conv => cbv
    have ez107 : (p.ar .add .i64 1 1) = (2) := by rw [hp]; rfl
    simp only [ez107]; clear ez107
    conv => cbv
    have e108 : (p.cmp .lss 2 4) = true := by rw [p_cmp_lss hp]; exact decide_eq_true (by omega)
    simp only [e108]; clear e108
    conv => cbv
    have e109 : (p.ix 2 4) = some 2 := by rw [hp]; rfl
    simp only [e109]; clear e109
    conv => cbv
    have e110 : (p.cmp .neq 1 seq) = true := by rw [p_cmp_neq hp]; exact decide_eq_true (by omega)
    simp only [e110]; clear e110
    conv => cbv
    have e111 : (p.nz 4000000000) = false := p_nzF hp (by omega)
    simp only [e111]; clear e111
    conv => cbv
    obtain ⟨z112, hz112⟩ : ∃ z : Int, z = last % 18446744073709551616 := ⟨_, rfl⟩
    have ez112 : (p.wr .u64 last) = z112 := by rw [hz112]; exact p_wr64m hp
    simp only [ez112]
    conv => cbv
    obtain ⟨z113, ez113⟩ : ∃ z, (p.ar .rem .u64 z112 4000000000) = z := ⟨_, rfl⟩
    simp only [ez113]
    conv => cbv
    obtain ⟨z114, ez114⟩ : ∃ z, (p.wr .i64 z113) = z := ⟨_, rfl⟩
    simp only [ez114]
    conv => cbv
    obtain ⟨z115, ez115⟩ : ∃ z, (p.ar .add .i64 z114 1) = z := ⟨_, rfl⟩
    simp only [ez115]
    conv => cbv
    obtain ⟨z116, ez116⟩ : ∃ z, (p.ar .sub .i64 z115 1) = z := ⟨_, rfl⟩
    simp only [ez116]
    conv => cbv
    refine call_E hC (by kernel_rfl) accept_v ?_; rintro ⟨ac117, bc117⟩ hA; dsimp only at hA
    conv => cbv
    refine call_E hC (by kernel_rfl) raccept_v ?_; rintro ⟨cc118, dc118⟩ hB; dsimp only at hB; rw [hA] at hB; simp only [Prod.mk.injEq] at hB; obtain ⟨rfl, rfl⟩ := hB; clear hA
    conv => cbv
    have e120 : (p.cmp .neq ac117 ac117) = false := by rw [p_cmp_neq hp]; exact decide_eq_false (by omega)
    simp only [e120]; clear e120
    conv => cbv
    have ez121 : (p.ar .add .i64 2 1) = (3) := by rw [hp]; rfl
    simp only [ez121]; clear ez121
    conv => cbv
    have e122 : (p.cmp .lss 3 4) = true := by rw [p_cmp_lss hp]; exact decide_eq_true (by omega)
    simp only [e122]; clear e122
    conv => cbv
    have e123 : (p.ix 3 4) = some 3 := by rw [hp]; rfl
    simp only [e123]; clear e123
    conv => cbv
    have e124 : (p.cmp .neq 2 seq) = true := by rw [p_cmp_neq hp]; exact decide_eq_true (by omega)
    simp only [e124]; clear e124
    conv => cbv
    have e125 : (p.nz 4000000000) = false := p_nzF hp (by omega)
    simp only [e125]; clear e125
    conv => cbv
    simp only [ez112]
    conv => cbv
    simp only [ez113]
    conv => cbv
    simp only [ez114]
    conv => cbv
    obtain ⟨z126, ez126⟩ : ∃ z, (p.ar .add .i64 z114 2) = z := ⟨_, rfl⟩
    simp only [ez126]
    conv => cbv
    obtain ⟨z127, ez127⟩ : ∃ z, (p.ar .sub .i64 z126 1) = z := ⟨_, rfl⟩
    simp only [ez127]
    conv => cbv
    refine call_E hC (by kernel_rfl) accept_v ?_; rintro ⟨ac128, bc128⟩ hA; dsimp only at hA
    conv => cbv
    refine call_E hC (by kernel_rfl) raccept_v ?_; rintro ⟨cc129, dc129⟩ hB; dsimp only at hB; rw [hA] at hB; simp only [Prod.mk.injEq] at hB; obtain ⟨rfl, rfl⟩ := hB; clear hA
    conv => cbv
    have e131 : (p.cmp .neq ac128 ac128) = false := by rw [p_cmp_neq hp]; exact decide_eq_false (by omega)
    simp only [e131]; clear e131
    conv => cbv
    have ez132 : (p.ar .add .i64 3 1) = (4) := by rw [hp]; rfl
    simp only [ez132]; clear ez132
    conv => cbv
    have e134 : (p.cmp .lss 4 4) = false := by rw [p_cmp_lss hp]; exact decide_eq_false (by omega)
    simp only [e134]; clear e134
    conv => cbv
    refine call_p hC (by kernel_rfl) (does_data works_o rfl) ?_
    conv => cbv
    exact back_same rfl
  by_cases h1 : seq = 1
  · conv => cbv
    have e136 : (p.cmp .lss 0 4) = true := by rw [p_cmp_lss hp]; exact decide_eq_true (by omega)
    simp only [e136]; clear e136
    conv => cbv
    have e137 : (p.ix 0 4) = some 0 := by rw [hp]; rfl
    simp only [e137]; clear e137
    conv => cbv
    have e139 : (p.cmp .neq seq seq) = false := by rw [p_cmp_neq hp]; exact decide_eq_false (by omega)
    simp only [e139]; clear e139
    conv => cbv
    refine call_E hC (by kernel_rfl) accept_v ?_; rintro ⟨ac140, bc140⟩ hA; dsimp only at hA
    conv => cbv
    refine call_E hC (by kernel_rfl) raccept_v ?_; rintro ⟨cc141, dc141⟩ hB; dsimp only at hB; rw [hA] at hB; simp only [Prod.mk.injEq] at hB; obtain ⟨rfl, rfl⟩ := hB; clear hA
    conv => cbv
    have e143 : (p.cmp .neq ac140 ac140) = false := by rw [p_cmp_neq hp]; exact decide_eq_false (by omega)
    simp only [e143]; clear e143
    conv => cbv
    have ez144 : (p.ar .add .i64 0 1) = (1) := by rw [hp]; rfl
    simp only [ez144]; clear ez144
    conv => cbv
    have e145 : (p.cmp .lss 1 4) = true := by rw [p_cmp_lss hp]; exact decide_eq_true (by omega)
    simp only [e145]; clear e145
    conv => cbv
    have e146 : (p.ix 1 4) = some 1 := by rw [hp]; rfl
    simp only [e146]; clear e146
    conv => cbv
    have e147 : (p.cmp .neq 0 seq) = true := by rw [p_cmp_neq hp]; exact decide_eq_true (by omega)
    simp only [e147]; clear e147
    conv => cbv
    have e148 : (p.nz 4000000000) = false := p_nzF hp (by omega)
    simp only [e148]; clear e148
    conv => cbv
    obtain ⟨z149, hz149⟩ : ∃ z : Int, z = last % 18446744073709551616 := ⟨_, rfl⟩
    have ez149 : (p.wr .u64 last) = z149 := by rw [hz149]; exact p_wr64m hp
    simp only [ez149]
    conv => cbv
    obtain ⟨z150, ez150⟩ : ∃ z, (p.ar .rem .u64 z149 4000000000) = z := ⟨_, rfl⟩
    simp only [ez150]
    conv => cbv
    obtain ⟨z151, ez151⟩ : ∃ z, (p.wr .i64 z150) = z := ⟨_, rfl⟩
    simp only [ez151]
    conv => cbv
    obtain ⟨z152, ez152⟩ : ∃ z, (p.ar .add .i64 z151 0) = z := ⟨_, rfl⟩
    simp only [ez152]
    conv => cbv
    obtain ⟨z153, ez153⟩ : ∃ z, (p.ar .sub .i64 z152 1) = z := ⟨_, rfl⟩
    simp only [ez153]
    conv => cbv
    refine call_E hC (by kernel_rfl) accept_v ?_; rintro ⟨ac154, bc154⟩ hA; dsimp only at hA
    conv => cbv
    refine call_E hC (by kernel_rfl) raccept_v ?_; rintro ⟨cc155, dc155⟩ hB; dsimp only at hB; rw [hA] at hB; simp only [Prod.mk.injEq] at hB; obtain ⟨rfl, rfl⟩ := hB; clear hA
    conv => cbv
    have e157 : (p.cmp .neq ac154 ac154) = false := by rw [p_cmp_neq hp]; exact decide_eq_false (by omega)
    simp only [e157]; clear e157
    conv => cbv
    have ez158 : (p.ar .add .i64 1 1) = (2) := by rw [hp]; rfl
    simp only [ez158]; clear ez158
    conv => cbv
    have e159 : (p.cmp .lss 2 4) = true := by rw [p_cmp_lss hp]; exact decide_eq_true (by omega)
    simp only [e159]; clear e159
    conv => cbv
    have e160 : (p.ix 2 4) = some 2 := by rw [hp]; rfl
    simp only [e160]; clear e160
    conv => cbv
    have e162 : (p.cmp .neq 1 seq) = false := by rw [p_cmp_neq hp]; exact decide_eq_false (by omega)
    simp only [e162]; clear e162
    conv => cbv
    refine call_E hC (by kernel_rfl) accept_v ?_; rintro ⟨ac163, bc163⟩ hA; dsimp only at hA
    conv => cbv
    refine call_E hC (by kernel_rfl) raccept_v ?_; rintro ⟨cc164, dc164⟩ hB; dsimp only at hB; rw [hA] at hB; simp only [Prod.mk.injEq] at hB; obtain ⟨rfl, rfl⟩ := hB; clear hA
    conv => cbv
    have e166 : (p.cmp .neq ac163 ac163) = false := by rw [p_cmp_neq hp]; exact decide_eq_false (by omega)
    simp only [e166]; clear e166
    conv => cbv
    have ez167 : (p.ar .add .i64 2 1) = (3) := by rw [hp]; rfl
    simp only [ez167]; clear ez167
    conv => cbv
    have e168 : (p.cmp .lss 3 4) = true := by rw [p_cmp_lss hp]; exact decide_eq_true (by omega)
    simp only [e168]; clear e168
    conv => cbv
    have e169 : (p.ix 3 4) = some 3 := by rw [hp]; rfl
    simp only [e169]; clear e169
    conv => cbv
    have e170 : (p.cmp .neq 2 seq) = true := by rw [p_cmp_neq hp]; exact decide_eq_true (by omega)
    simp only [e170]; clear e170
    conv => cbv
    have e171 : (p.nz 4000000000) = false := p_nzF hp (by omega)
    simp only [e171]; clear e171
    conv => cbv
    simp only [ez149]
    conv => cbv
    simp only [ez150]
    conv => cbv
    simp only [ez151]
    conv => cbv
    obtain ⟨z172, ez172⟩ : ∃ z, (p.ar .add .i64 z151 2) = z := ⟨_, rfl⟩
    simp only [ez172]
    conv => cbv
    obtain ⟨z173, ez173⟩ : ∃ z, (p.ar .sub .i64 z172 1) = z := ⟨_, rfl⟩
    simp only [ez173]
    conv => cbv
    refine call_E hC (by kernel_rfl) accept_v ?_; rintro ⟨ac174, bc174⟩ hA; dsimp only at hA
    conv => cbv
    refine call_E hC (by kernel_rfl) raccept_v ?_; rintro ⟨cc175, dc175⟩ hB; dsimp only at hB; rw [hA] at hB; simp only [Prod.mk.injEq] at hB; obtain ⟨rfl, rfl⟩ := hB; clear hA
    conv => cbv
    have e177 : (p.cmp .neq ac174 ac174) = false := by rw [p_cmp_neq hp]; exact decide_eq_false (by omega)
    simp only [e177]; clear e177
    conv => cbv
    have ez178 : (p.ar .add .i64 3 1) = (4) := by rw [hp]; rfl
    simp only [ez178]; clear ez178
    conv => cbv
    have e180 : (p.cmp .lss 4 4) = false := by rw [p_cmp_lss hp]; exact decide_eq_false (by omega)
    simp only [e180]; clear e180
    conv => cbv
    refine call_p hC (by kernel_rfl) (does_data works_o rfl) ?_
    conv => cbv
    exact back_same rfl
  by_cases h2 : seq = 2
  · conv => cbv
    have e182 : (p.cmp .lss 0 4) = true := by rw [p_cmp_lss hp]; exact decide_eq_true (by omega)
    simp only [e182]; clear e182
    conv => cbv
    have e183 : (p.ix 0 4) = some 0 := by rw [hp]; rfl
    simp only [e183]; clear e183
    conv => cbv
    have e185 : (p.cmp .neq seq seq) = false := by rw [p_cmp_neq hp]; exact decide_eq_false (by omega)
    simp only [e185]; clear e185
    conv => cbv
    refine call_E hC (by kernel_rfl) accept_v ?_; rintro ⟨ac186, bc186⟩ hA; dsimp only at hA
    conv => cbv
    refine call_E hC (by kernel_rfl) raccept_v ?_; rintro ⟨cc187, dc187⟩ hB; dsimp only at hB; rw [hA] at hB; simp only [Prod.mk.injEq] at hB; obtain ⟨rfl, rfl⟩ := hB; clear hA
    conv => cbv
    have e189 : (p.cmp .neq ac186 ac186) = false := by rw [p_cmp_neq hp]; exact decide_eq_false (by omega)
    simp only [e189]; clear e189
    conv => cbv
    have ez190 : (p.ar .add .i64 0 1) = (1) := by rw [hp]; rfl
    simp only [ez190]; clear ez190
    conv => cbv
    have e191 : (p.cmp .lss 1 4) = true := by rw [p_cmp_lss hp]; exact decide_eq_true (by omega)
    simp only [e191]; clear e191
    conv => cbv
    have e192 : (p.ix 1 4) = some 1 := by rw [hp]; rfl
    simp only [e192]; clear e192
    conv => cbv
    have e193 : (p.cmp .neq 0 seq) = true := by rw [p_cmp_neq hp]; exact decide_eq_true (by omega)
    simp only [e193]; clear e193
    conv => cbv
    have e194 : (p.nz 4000000000) = false := p_nzF hp (by omega)
    simp only [e194]; clear e194
    conv => cbv
    obtain ⟨z195, hz195⟩ : ∃ z : Int, z = last % 18446744073709551616 := ⟨_, rfl⟩
    have ez195 : (p.wr .u64 last) = z195 := by rw [hz195]; exact p_wr64m hp
    simp only [ez195]
    conv => cbv
    obtain ⟨z196, ez196⟩ : ∃ z, (p.ar .rem .u64 z195 4000000000) = z := ⟨_, rfl⟩
    simp only [ez196]
    conv => cbv
    obtain ⟨z197, ez197⟩ : ∃ z, (p.wr .i64 z196) = z := ⟨_, rfl⟩
    simp only [ez197]
    conv => cbv
    obtain ⟨z198, ez198⟩ : ∃ z, (p.ar .add .i64 z197 0) = z := ⟨_, rfl⟩
    simp only [ez198]
    conv => cbv
    obtain ⟨z199, ez199⟩ : ∃ z, (p.ar .sub .i64 z198 1) = z := ⟨_, rfl⟩
    simp only [ez199]
    conv => cbv
    refine call_E hC (by kernel_rfl) accept_v ?_; rintro ⟨ac200, bc200⟩ hA; dsimp only at hA
    conv => cbv
    refine call_E hC (by kernel_rfl) raccept_v ?_; rintro ⟨cc201, dc201⟩ hB; dsimp only at hB; rw [hA] at hB; simp only [Prod.mk.injEq] at hB; obtain ⟨rfl, rfl⟩ := hB; clear hA
    conv => cbv
    have e203 : (p.cmp .neq ac200 ac200) = false := by rw [p_cmp_neq hp]; exact decide_eq_false (by omega)
    simp only [e203]; clear e203
    conv => cbv
    have ez204 : (p.ar .add .i64 1 1) = (2) := by rw [hp]; rfl
    simp only [ez204]; clear ez204
    conv => cbv
    have e205 : (p.cmp .lss 2 4) = true := by rw [p_cmp_lss hp]; exact decide_eq_true (by omega)
    simp only [e205]; clear e205
    conv => cbv
    have e206 : (p.ix 2 4) = some 2 := by rw [hp]; rfl
    simp only [e206]; clear e206
    conv => cbv
    have e207 : (p.cmp .neq 1 seq) = true := by rw [p_cmp_neq hp]; exact decide_eq_true (by omega)
    simp only [e207]; clear e207
    conv => cbv
    have e208 : (p.nz 4000000000) = false := p_nzF hp (by omega)
    simp only [e208]; clear e208
    conv => cbv
    simp only [ez195]
    conv => cbv
    simp only [ez196]
    conv => cbv
    simp only [ez197]
    conv => cbv
    obtain ⟨z209, ez209⟩ : ∃ z, (p.ar .add .i64 z197 1) = z := ⟨_, rfl⟩
    simp only [ez209]
    conv => cbv
    obtain ⟨z210, ez210⟩ : ∃ z, (p.ar .sub .i64 z209 1) = z := ⟨_, rfl⟩
    simp only [ez210]
    conv => cbv
    refine call_E hC (by kernel_rfl) accept_v ?_; rintro ⟨ac211, bc211⟩ hA; dsimp only at hA
    conv => cbv
    refine call_E hC (by kernel_rfl) raccept_v ?_; rintro ⟨cc212, dc212⟩ hB; dsimp only at hB; rw [hA] at hB; simp only [Prod.mk.injEq] at hB; obtain ⟨rfl, rfl⟩ := hB; clear hA
    conv => cbv
    have e214 : (p.cmp .neq ac211 ac211) = false := by rw [p_cmp_neq hp]; exact decide_eq_false (by omega)
    simp only [e214]; clear e214
    conv => cbv
    have ez215 : (p.ar .add .i64 2 1) = (3) := by rw [hp]; rfl
    simp only [ez215]; clear ez215
    conv => cbv
    have e216 : (p.cmp .lss 3 4) = true := by rw [p_cmp_lss hp]; exact decide_eq_true (by omega)
    simp only [e216]; clear e216
    conv => cbv
    have e217 : (p.ix 3 4) = some 3 := by rw [hp]; rfl
    simp only [e217]; clear e217
    conv => cbv
    have e219 : (p.cmp .neq 2 seq) = false := by rw [p_cmp_neq hp]; exact decide_eq_false (by omega)
    simp only [e219]; clear e219
    conv => cbv
    refine call_E hC (by kernel_rfl) accept_v ?_; rintro ⟨ac220, bc220⟩ hA; dsimp only at hA
    conv => cbv
    refine call_E hC (by kernel_rfl) raccept_v ?_; rintro ⟨cc221, dc221⟩ hB; dsimp only at hB; rw [hA] at hB; simp only [Prod.mk.injEq] at hB; obtain ⟨rfl, rfl⟩ := hB; clear hA
    conv => cbv
    have e223 : (p.cmp .neq ac220 ac220) = false := by rw [p_cmp_neq hp]; exact decide_eq_false (by omega)
    simp only [e223]; clear e223
    conv => cbv
    have ez224 : (p.ar .add .i64 3 1) = (4) := by rw [hp]; rfl
    simp only [ez224]; clear ez224
    conv => cbv
    have e226 : (p.cmp .lss 4 4) = false := by rw [p_cmp_lss hp]; exact decide_eq_false (by omega)
    simp only [e226]; clear e226
    conv => cbv
    refine call_p hC (by kernel_rfl) (does_data works_o rfl) ?_
    conv => cbv
    exact back_same rfl
  conv => cbv
  have e228 : (p.cmp .lss 0 4) = true := by rw [p_cmp_lss hp]; exact decide_eq_true (by omega)
  simp only [e228]; clear e228
  conv => cbv
  have e229 : (p.ix 0 4) = some 0 := by rw [hp]; rfl
  simp only [e229]; clear e229
  conv => cbv
  have e231 : (p.cmp .neq seq seq) = false := by rw [p_cmp_neq hp]; exact decide_eq_false (by omega)
  simp only [e231]; clear e231
  conv => cbv
  refine call_E hC (by kernel_rfl) accept_v ?_; rintro ⟨ac232, bc232⟩ hA; dsimp only at hA
  conv => cbv
  refine call_E hC (by kernel_rfl) raccept_v ?_; rintro ⟨cc233, dc233⟩ hB; dsimp only at hB; rw [hA] at hB; simp only [Prod.mk.injEq] at hB; obtain ⟨rfl, rfl⟩ := hB; clear hA
  conv => cbv
  have e235 : (p.cmp .neq ac232 ac232) = false := by rw [p_cmp_neq hp]; exact decide_eq_false (by omega)
  simp only [e235]; clear e235
  conv => cbv
  have ez236 : (p.ar .add .i64 0 1) = (1) := by rw [hp]; rfl
  simp only [ez236]; clear ez236
  conv => cbv
  have e237 : (p.cmp .lss 1 4) = true := by rw [p_cmp_lss hp]; exact decide_eq_true (by omega)
  simp only [e237]; clear e237
  conv => cbv
  have e238 : (p.ix 1 4) = some 1 := by rw [hp]; rfl
  simp only [e238]; clear e238
  conv => cbv
  have e239 : (p.cmp .neq 0 seq) = true := by rw [p_cmp_neq hp]; exact decide_eq_true (by omega)
  simp only [e239]; clear e239
  conv => cbv
  have e240 : (p.nz 4000000000) = false := p_nzF hp (by omega)
  simp only [e240]; clear e240
  conv => cbv
  obtain ⟨z241, hz241⟩ : ∃ z : Int, z = last % 18446744073709551616 := ⟨_, rfl⟩
  have ez241 : (p.wr .u64 last) = z241 := by rw [hz241]; exact p_wr64m hp
  simp only [ez241]
  conv => cbv
  obtain ⟨z242, ez242⟩ : ∃ z, (p.ar .rem .u64 z241 4000000000) = z := ⟨_, rfl⟩
  simp only [ez242]
  conv => cbv
  obtain ⟨z243, ez243⟩ : ∃ z, (p.wr .i64 z242) = z := ⟨_, rfl⟩
  simp only [ez243]
  conv => cbv
  obtain ⟨z244, ez244⟩ : ∃ z, (p.ar .add .i64 z243 0) = z := ⟨_, rfl⟩
  simp only [ez244]
  conv => cbv
  obtain ⟨z245, ez245⟩ : ∃ z, (p.ar .sub .i64 z244 1) = z := ⟨_, rfl⟩
  simp only [ez245]
  conv => cbv
  refine call_E hC (by kernel_rfl) accept_v ?_; rintro ⟨ac246, bc246⟩ hA; dsimp only at hA
  conv => cbv
  refine call_E hC (by kernel_rfl) raccept_v ?_; rintro ⟨cc247, dc247⟩ hB; dsimp only at hB; rw [hA] at hB; simp only [Prod.mk.injEq] at hB; obtain ⟨rfl, rfl⟩ := hB; clear hA
  conv => cbv
  have e249 : (p.cmp .neq ac246 ac246) = false := by rw [p_cmp_neq hp]; exact decide_eq_false (by omega)
  simp only [e249]; clear e249
  conv => cbv
  have ez250 : (p.ar .add .i64 1 1) = (2) := by rw [hp]; rfl
  simp only [ez250]; clear ez250
  conv => cbv
  have e251 : (p.cmp .lss 2 4) = true := by rw [p_cmp_lss hp]; exact decide_eq_true (by omega)
  simp only [e251]; clear e251
  conv => cbv
  have e252 : (p.ix 2 4) = some 2 := by rw [hp]; rfl
  simp only [e252]; clear e252
  conv => cbv
  have e253 : (p.cmp .neq 1 seq) = true := by rw [p_cmp_neq hp]; exact decide_eq_true (by omega)
  simp only [e253]; clear e253
  conv => cbv
  have e254 : (p.nz 4000000000) = false := p_nzF hp (by omega)
  simp only [e254]; clear e254
  conv => cbv
  simp only [ez241]
  conv => cbv
  simp only [ez242]
  conv => cbv
  simp only [ez243]
  conv => cbv
  obtain ⟨z255, ez255⟩ : ∃ z, (p.ar .add .i64 z243 1) = z := ⟨_, rfl⟩
  simp only [ez255]
  conv => cbv
  obtain ⟨z256, ez256⟩ : ∃ z, (p.ar .sub .i64 z255 1) = z := ⟨_, rfl⟩
  simp only [ez256]
  conv => cbv
  refine call_E hC (by kernel_rfl) accept_v ?_; rintro ⟨ac257, bc257⟩ hA; dsimp only at hA
  conv => cbv
  refine call_E hC (by kernel_rfl) raccept_v ?_; rintro ⟨cc258, dc258⟩ hB; dsimp only at hB; rw [hA] at hB; simp only [Prod.mk.injEq] at hB; obtain ⟨rfl, rfl⟩ := hB; clear hA
  conv => cbv
  have e260 : (p.cmp .neq ac257 ac257) = false := by rw [p_cmp_neq hp]; exact decide_eq_false (by omega)
  simp only [e260]; clear e260
  conv => cbv
  have ez261 : (p.ar .add .i64 2 1) = (3) := by rw [hp]; rfl
  simp only [ez261]; clear ez261
  conv => cbv
  have e262 : (p.cmp .lss 3 4) = true := by rw [p_cmp_lss hp]; exact decide_eq_true (by omega)
  simp only [e262]; clear e262
  conv => cbv
  have e263 : (p.ix 3 4) = some 3 := by rw [hp]; rfl
  simp only [e263]; clear e263
  conv => cbv
  have e264 : (p.cmp .neq 2 seq) = true := by rw [p_cmp_neq hp]; exact decide_eq_true (by omega)
  simp only [e264]; clear e264
  conv => cbv
  have e265 : (p.nz 4000000000) = false := p_nzF hp (by omega)
  simp only [e265]; clear e265
  conv => cbv
  simp only [ez241]
  conv => cbv
  simp only [ez242]
  conv => cbv
  simp only [ez243]
  conv => cbv
  obtain ⟨z266, ez266⟩ : ∃ z, (p.ar .add .i64 z243 2) = z := ⟨_, rfl⟩
  simp only [ez266]
  conv => cbv
  obtain ⟨z267, ez267⟩ : ∃ z, (p.ar .sub .i64 z266 1) = z := ⟨_, rfl⟩
  simp only [ez267]
  conv => cbv
  refine call_E hC (by kernel_rfl) accept_v ?_; rintro ⟨ac268, bc268⟩ hA; dsimp only at hA
  conv => cbv
  refine call_E hC (by kernel_rfl) raccept_v ?_; rintro ⟨cc269, dc269⟩ hB; dsimp only at hB; rw [hA] at hB; simp only [Prod.mk.injEq] at hB; obtain ⟨rfl, rfl⟩ := hB; clear hA
  conv => cbv
  have e271 : (p.cmp .neq ac268 ac268) = false := by rw [p_cmp_neq hp]; exact decide_eq_false (by omega)
  simp only [e271]; clear e271
  conv => cbv
  have ez272 : (p.ar .add .i64 3 1) = (4) := by rw [hp]; rfl
  simp only [ez272]; clear ez272
  conv => cbv
  have e274 : (p.cmp .lss 4 4) = false := by rw [p_cmp_lss hp]; exact decide_eq_false (by omega)
  simp only [e274]; clear e274
  conv => cbv
  refine call_p hC (by kernel_rfl) (does_data works_o rfl) ?_
  conv => cbv
  exact back_same rfl
end Go.Proofs.Ytonejiaiieiboaa
