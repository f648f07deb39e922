/- Chapter 20: the law JournalLogs. -/
import Derived.Test.YtmkbnmjhkghdjaaB4
import Derived.Test.YtmkbnmjhkghdjaaG
set_option linter.unusedVariables false
set_option linter.unusedSimpArgs false
namespace Go.Proofs.Ytmkbnmjhkghdjaa
open Go.RowKit
set_option maxHeartbeats 4000000
set_option maxRecDepth 100000
theorem append_v {l d : List UInt8} {sy ct ki : Int} {k nl nd : Nat} {cl cd : List DV} {rd : Nat → Option AO} (hk : k < 256) (hki : (k : Int) = ki) (hl : nl ≤ 100000) (hd : nd ≤ 100000) (hcl : bytesD l = cl) (hnl : l.length = nl) (hcd : bytesD d = cd) (hnd : d.length = nd) :
    ∃ R : (List UInt8 × Int × Int) × Int × List DV × Nat, (appendR l sy ct k d = (R.1, R.2.1) ∧ bytesD R.1.1 = R.2.2.1 ∧ R.1.1.length = R.2.2.2 ∧ R.2.2.1.length = R.2.2.2) ∧ Does Try.prog (fun _ => none) 25 [.agg [.d (.dl cl nl none), aInt .i64 sy, aInt .i64 ct], .agg [aInt .u8 ki, .d (.dl cd nd none)]] [] (.tup [.agg [.d (.dl R.2.2.1 R.2.2.2 none), aInt .i64 R.1.2.1, aInt .i64 R.1.2.2], aInt .u8 R.2.1]) [] rd := by
  obtain ⟨⟨⟨a, b, c⟩, e⟩, hR⟩ : ∃ R, appendR l sy ct k d = R := ⟨_, rfl⟩
  exact ⟨((a, b, c), e, bytesD a, a.length), ⟨hR, rfl, rfl, bytesD_length _⟩, does_data (append_o hk hki hl hd hcl hnl hcd hnd hR rfl rfl) rfl⟩
theorem rappend_v {l d : List UInt8} {sy ct ki : Int} {k nl nd : Nat} {cl cd : List DV} {rd : Nat → Option AO} (hk : k < 256) (hki : (k : Int) = ki) (hl : nl ≤ 100000) (hd : nd ≤ 100000) (hcl : bytesD l = cl) (hnl : l.length = nl) (hcd : bytesD d = cd) (hnd : d.length = nd) :
    ∃ R : (List UInt8 × Int × Int) × Int × List DV × Nat, (appendR l sy ct k d = (R.1, R.2.1) ∧ bytesD R.1.1 = R.2.2.1 ∧ R.1.1.length = R.2.2.2 ∧ R.2.2.1.length = R.2.2.2) ∧ Does Try.prog (fun _ => none) 26 [.agg [.d (.dl cl nl none), aInt .i64 sy, aInt .i64 ct], .agg [aInt .u8 ki, .d (.dl cd nd none)]] [] (.tup [.agg [.d (.dl R.2.2.1 R.2.2.2 none), aInt .i64 R.1.2.1, aInt .i64 R.1.2.2], aInt .u8 R.2.1]) [] rd := by
  obtain ⟨⟨⟨a, b, c⟩, e⟩, hR⟩ : ∃ R, appendR l sy ct k d = R := ⟨_, rfl⟩
  exact ⟨((a, b, c), e, bytesD a, a.length), ⟨hR, rfl, rfl, bytesD_length _⟩, does_data (rappend_o hk hki hl hd hcl hnl hcd hnd hR rfl rfl) rfl⟩
theorem sync_v {l : List UInt8} {sy ct : Int} {nl : Nat} {cl : List DV} {rd : Nat → Option AO} (hl : nl ≤ 100000) (hcl : bytesD l = cl) (hnl : l.length = nl) :
    ∃ R : (List UInt8 × Int × Int) × List DV × Nat, (syncR l sy ct = R.1 ∧ bytesD R.1.1 = R.2.1 ∧ R.1.1.length = R.2.2 ∧ R.2.1.length = R.2.2) ∧ Does Try.prog (fun _ => none) 29 [.agg [.d (.dl cl nl none), aInt .i64 sy, aInt .i64 ct]] [] (.agg [.d (.dl R.2.1 R.2.2 none), aInt .i64 R.1.2.1, aInt .i64 R.1.2.2]) [] rd := by
  obtain ⟨⟨a, b, c⟩, hR⟩ : ∃ R, syncR l sy ct = R := ⟨_, rfl⟩
  exact ⟨((a, b, c), bytesD a, a.length), ⟨hR, rfl, rfl, bytesD_length _⟩, does_data (sync_o hl hcl hnl hR rfl rfl) rfl⟩
theorem rsync_v {l : List UInt8} {sy ct : Int} {nl : Nat} {cl : List DV} {rd : Nat → Option AO} (hl : nl ≤ 100000) (hcl : bytesD l = cl) (hnl : l.length = nl) :
    ∃ R : (List UInt8 × Int × Int) × List DV × Nat, (syncR l sy ct = R.1 ∧ bytesD R.1.1 = R.2.1 ∧ R.1.1.length = R.2.2 ∧ R.2.1.length = R.2.2) ∧ Does Try.prog (fun _ => none) 30 [.agg [.d (.dl cl nl none), aInt .i64 sy, aInt .i64 ct]] [] (.agg [.d (.dl R.2.1 R.2.2 none), aInt .i64 R.1.2.1, aInt .i64 R.1.2.2]) [] rd := by
  obtain ⟨⟨a, b, c⟩, hR⟩ : ∃ R, syncR l sy ct = R := ⟨_, rfl⟩
  exact ⟨((a, b, c), bytesD a, a.length), ⟨hR, rfl, rfl, bytesD_length _⟩, does_data (rsync_o hl hcl hnl hR rfl rfl) rfl⟩
theorem crash_v {l : List UInt8} {sy ct keep : Int} {nl : Nat} {cl : List DV} {rd : Nat → Option AO} (hl : nl ≤ 100000) (hcl : bytesD l = cl) (hnl : l.length = nl) :
    ∃ R : List UInt8 × List DV × Nat, (crashR l sy ct keep = R.1 ∧ bytesD R.1 = R.2.1 ∧ R.1.length = R.2.2 ∧ R.2.1.length = R.2.2) ∧ Does Try.prog (fun _ => none) 24 [.agg [.d (.dl cl nl none), aInt .i64 sy, aInt .i64 ct], aInt .i64 keep] [] (.d (.dl R.2.1 R.2.2 none)) [] rd := by
  obtain ⟨a, hR⟩ : ∃ R, crashR l sy ct keep = R := ⟨_, rfl⟩
  exact ⟨(a, bytesD a, a.length), ⟨hR, rfl, rfl, bytesD_length _⟩, does_data (crash_o hl hcl hnl hR rfl rfl) rfl⟩
theorem rcrash_v {l : List UInt8} {sy ct keep : Int} {nl : Nat} {cl : List DV} {rd : Nat → Option AO} (hl : nl ≤ 100000) (hcl : bytesD l = cl) (hnl : l.length = nl) :
    ∃ R : List UInt8 × List DV × Nat, (crashR l sy ct keep = R.1 ∧ bytesD R.1 = R.2.1 ∧ R.1.length = R.2.2 ∧ R.2.1.length = R.2.2) ∧ Does Try.prog (fun _ => none) 31 [.agg [.d (.dl cl nl none), aInt .i64 sy, aInt .i64 ct], aInt .i64 keep] [] (.d (.dl R.2.1 R.2.2 none)) [] rd := by
  obtain ⟨a, hR⟩ : ∃ R, crashR l sy ct keep = R := ⟨_, rfl⟩
  exact ⟨(a, bytesD a, a.length), ⟨hR, rfl, rfl, bytesD_length _⟩, does_data (rcrash_o hl hcl hnl hR rfl rfl) rfl⟩
theorem samelog_o {L : List UInt8} {c1 c2 : List DV} {n1 n2 : Nat} {s t : Int} (b1 : bytesD L = c1) (m1 : L.length = n1) (w1 : c1.length = n1) (b2 : bytesD L = c2) (m2 : L.length = n2) (w2 : c2.length = n2) :
    DoesO Try.prog (fun _ => none) 23 [.agg [.d (.dl c1 n1 none), aInt .i64 s, aInt .i64 t], .agg [.d (.dl c2 n2 none), aInt .i64 s, aInt .i64 t]] [] (aBool true) [] := by
  refine does_p KK (fn := Try.f23) Try.func23 rfl (by show 2 ≤ _; decide) ?_
  intro C F p hC hF hp
  conv => cbv
  have ez1 : (p.len c1) = n1 := by rw [p_len hp]; exact w1
  simp only [ez1]; clear ez1
  conv => cbv
  have ez2 : (p.nm n1 1) = n1 := by rw [p_nm hp]; omega
  simp only [ez2]; clear ez2
  conv => cbv
  have e3 : (p.neq n1 n1) = true := p_neq hp (by omega)
  simp only [e3]; clear e3
  conv => cbv
  simp only [p_sof hp b1]
  conv => cbv
  have ez4 : (p.len c2) = n2 := by rw [p_len hp]; exact w2
  simp only [ez4]; clear ez4
  conv => cbv
  have ez5 : (p.nm n2 1) = n2 := by rw [p_nm hp]; omega
  simp only [ez5]; clear ez5
  conv => cbv
  have e6 : (p.neq n2 n2) = true := p_neq hp (by omega)
  simp only [e6]; clear e6
  conv => cbv
  simp only [p_sof hp b2]
  conv => cbv
  have e7 : (p.seq ({ data := { toList := L } }) ({ data := { toList := L } })) = true := p_seqT hp rfl
  simp only [e7]; clear e7
  conv => cbv
  have e8 : (p.cmp .eql s s) = true := by rw [p_cmp_eql hp]; exact decide_eq_true (by omega)
  simp only [e8]; clear e8
  conv => cbv
  have ez9 : (p.cmp .eql t t) = true := by rw [p_cmp_eql hp]; exact decide_eq_true (by omega)
  simp only [ez9]; clear ez9
  conv => cbv
  exact back_same rfl
theorem logs_o (l d : List UInt8) (sy ct keep : Int) (k : Nat) (hk : k < 256) : DoesO Try.prog (fun _ => none) 9 [.agg [.d (bD l), aInt .i64 sy, aInt .i64 ct], .agg [aInt .u8 k, .d (bD d)], aInt .i64 keep] [] (aBool true) [] := by
  obtain ⟨ki, hki⟩ : ∃ i : Int, (k : Int) = i := ⟨_, rfl⟩
  rw [hki]
  unfold bD
  obtain ⟨cl, hcl⟩ : ∃ cs, bytesD l = cs := ⟨_, rfl⟩
  obtain ⟨nl, hnl⟩ : ∃ n, l.length = n := ⟨_, rfl⟩
  obtain ⟨cd, hcd⟩ : ∃ cs, bytesD d = cs := ⟨_, rfl⟩
  obtain ⟨nd, hnd⟩ : ∃ n, d.length = n := ⟨_, rfl⟩
  rw [hcl, hnl, hcd, hnd]
  have wl : cl.length = nl := by rw [← hcl, bytesD_length, hnl]
  have wd : cd.length = nd := by rw [← hcd, bytesD_length, hnd]
  refine does_p KK (fn := Try.f9) Try.func9 rfl (by show 3 ≤ _; decide) ?_
  intro C F p hC hF hp
  by_cases hb0 : nl > 5000
  · conv => cbv
    obtain ⟨z10, hz10⟩ : ∃ z : Int, z = ((nl : Nat) : Int) := ⟨_, rfl⟩
    have ez10 : (p.zi nl) = z10 := by rw [hz10]; exact p_zi hp
    simp only [ez10]
    conv => cbv
    have e11 : (p.cmp .gtr z10 5000) = true := by rw [p_cmp_gtr hp]; exact decide_eq_true (by omega)
    simp only [e11]; clear e11
    conv => cbv
    refine call_p hC (by kernel_rfl) lives_v ⟨by decide_cbv, ?_⟩
    conv => cbv
    exact back_same rfl
  by_cases hm0 : nd > 5000
  · conv => cbv
    obtain ⟨z13, hz13⟩ : ∃ z : Int, z = ((nl : Nat) : Int) := ⟨_, rfl⟩
    have ez13 : (p.zi nl) = z13 := by rw [hz13]; exact p_zi hp
    simp only [ez13]
    conv => cbv
    have e15 : (p.cmp .gtr z13 5000) = false := by rw [p_cmp_gtr hp]; exact decide_eq_false (by omega)
    simp only [e15]; clear e15
    conv => cbv
    obtain ⟨z16, hz16⟩ : ∃ z : Int, z = ((nd : Nat) : Int) := ⟨_, rfl⟩
    have ez16 : (p.zi nd) = z16 := by rw [hz16]; exact p_zi hp
    simp only [ez16]
    conv => cbv
    have e17 : (p.cmp .gtr z16 5000) = true := by rw [p_cmp_gtr hp]; exact decide_eq_true (by omega)
    simp only [e17]; clear e17
    conv => cbv
    refine call_p hC (by kernel_rfl) lives_v ⟨by decide_cbv, ?_⟩
    conv => cbv
    exact back_same rfl
  cases hv : validL l sy ct with
  | false =>
    conv => cbv
    obtain ⟨z19, hz19⟩ : ∃ z : Int, z = ((nl : Nat) : Int) := ⟨_, rfl⟩
    have ez19 : (p.zi nl) = z19 := by rw [hz19]; exact p_zi hp
    simp only [ez19]
    conv => cbv
    have e21 : (p.cmp .gtr z19 5000) = false := by rw [p_cmp_gtr hp]; exact decide_eq_false (by omega)
    simp only [e21]; clear e21
    conv => cbv
    obtain ⟨z22, hz22⟩ : ∃ z : Int, z = ((nd : Nat) : Int) := ⟨_, rfl⟩
    have ez22 : (p.zi nd) = z22 := by rw [hz22]; exact p_zi hp
    simp only [ez22]
    conv => cbv
    have e24 : (p.cmp .gtr z22 5000) = false := by rw [p_cmp_gtr hp]; exact decide_eq_false (by omega)
    simp only [e24]; clear e24
    conv => cbv
    refine call_E hC (by kernel_rfl) (append_v (l := l) (d := d) hk hki (by omega) (by omega) hcl hnl hcd hnd) ?_; rintro ⟨⟨L1, s1, t1⟩, e1, c1, n1⟩ ⟨h1, b1, m1, w1⟩; dsimp only at h1 b1 m1 w1; refine ⟨by decide_cbv, ?_⟩
    conv => cbv
    refine call_E hC (by kernel_rfl) (rappend_v (l := l) (d := d) hk hki (by omega) (by omega) hcl hnl hcd hnd) ?_; rintro ⟨⟨L2, s2, t2⟩, e2, c2, n2⟩ ⟨h2, b2, m2, w2⟩; dsimp only at h2 b2 m2 w2; rw [h1] at h2; cases h2; refine ⟨by decide_cbv, ?_⟩
    conv => cbv
    refine call_p hC (by kernel_rfl) (valid_v hcl hnl hv) ⟨by decide_cbv, ?_⟩
    conv => cbv
    refine call_p hC (by kernel_rfl) (rvalid_v hcl hnl hv) ⟨by decide_cbv, ?_⟩
    conv => cbv
    first | refine call_p hC (by kernel_rfl) (does_data (samelog_o b1 m1 w1 b2 m2 w2) rfl) ⟨by decide_cbv, ?_⟩ | refine call_p hC (by kernel_rfl) (does_data (samelog_o b3 m3 w3 b4 m4 w4) rfl) ⟨by decide_cbv, ?_⟩
    conv => cbv
    have e30 : (p.cmp .eql e1 e1) = true := by rw [p_cmp_eql hp]; exact decide_eq_true (by omega)
    simp only [e30]; clear e30
    conv => cbv
    refine call_E hC (by kernel_rfl) (sync_v (l := l) (by omega) hcl hnl) ?_; rintro ⟨⟨L3, s3, t3⟩, c3, n3⟩ ⟨h3, b3, m3, w3⟩; dsimp only at h3 b3 m3 w3; refine ⟨by decide_cbv, ?_⟩
    conv => cbv
    refine call_E hC (by kernel_rfl) (rsync_v (l := l) (by omega) hcl hnl) ?_; rintro ⟨⟨L4, s4, t4⟩, c4, n4⟩ ⟨h4, b4, m4, w4⟩; dsimp only at h4 b4 m4 w4; rw [h3] at h4; cases h4; refine ⟨by decide_cbv, ?_⟩
    conv => cbv
    first | refine call_p hC (by kernel_rfl) (does_data (samelog_o b1 m1 w1 b2 m2 w2) rfl) ⟨by decide_cbv, ?_⟩ | refine call_p hC (by kernel_rfl) (does_data (samelog_o b3 m3 w3 b4 m4 w4) rfl) ⟨by decide_cbv, ?_⟩
    conv => cbv
    refine call_E hC (by kernel_rfl) (crash_v (l := l) (by omega) hcl hnl) ?_; rintro ⟨L5, c5, n5⟩ ⟨h5, b5, m5, w5⟩; dsimp only at h5 b5 m5 w5; refine ⟨by decide_cbv, ?_⟩
    conv => cbv
    have ez35 : (p.len c5) = n5 := by rw [p_len hp]; exact w5
    simp only [ez35]; clear ez35
    conv => cbv
    have ez36 : (p.nm n5 1) = n5 := by rw [p_nm hp]; omega
    simp only [ez36]; clear ez36
    conv => cbv
    have e37 : (p.neq n5 n5) = true := p_neq hp (by omega)
    simp only [e37]; clear e37
    conv => cbv
    simp only [p_sof hp b5]
    conv => cbv
    refine call_E hC (by kernel_rfl) (rcrash_v (l := l) (by omega) hcl hnl) ?_; rintro ⟨L6, c6, n6⟩ ⟨h6, b6, m6, w6⟩; dsimp only at h6 b6 m6 w6; rw [h5] at h6; cases h6; refine ⟨by decide_cbv, ?_⟩
    conv => cbv
    have ez39 : (p.len c6) = n6 := by rw [p_len hp]; exact w6
    simp only [ez39]; clear ez39
    conv => cbv
    have ez40 : (p.nm n6 1) = n6 := by rw [p_nm hp]; omega
    simp only [ez40]; clear ez40
    conv => cbv
    have e41 : (p.neq n6 n6) = true := p_neq hp (by omega)
    simp only [e41]; clear e41
    conv => cbv
    simp only [p_sof hp b6]
    conv => cbv
    have e42 : (p.seq ({ data := { toList := L5 } }) ({ data := { toList := L5 } })) = true := p_seqT hp rfl
    simp only [e42]; clear e42
    conv => cbv
    refine call_p hC (by kernel_rfl) lives_v ⟨by decide_cbv, ?_⟩
    conv => cbv
    exact back_same rfl
  | true =>
    conv => cbv
    obtain ⟨z44, hz44⟩ : ∃ z : Int, z = ((nl : Nat) : Int) := ⟨_, rfl⟩
    have ez44 : (p.zi nl) = z44 := by rw [hz44]; exact p_zi hp
    simp only [ez44]
    conv => cbv
    have e46 : (p.cmp .gtr z44 5000) = false := by rw [p_cmp_gtr hp]; exact decide_eq_false (by omega)
    simp only [e46]; clear e46
    conv => cbv
    obtain ⟨z47, hz47⟩ : ∃ z : Int, z = ((nd : Nat) : Int) := ⟨_, rfl⟩
    have ez47 : (p.zi nd) = z47 := by rw [hz47]; exact p_zi hp
    simp only [ez47]
    conv => cbv
    have e49 : (p.cmp .gtr z47 5000) = false := by rw [p_cmp_gtr hp]; exact decide_eq_false (by omega)
    simp only [e49]; clear e49
    conv => cbv
    refine call_E hC (by kernel_rfl) (append_v (l := l) (d := d) hk hki (by omega) (by omega) hcl hnl hcd hnd) ?_; rintro ⟨⟨L1, s1, t1⟩, e1, c1, n1⟩ ⟨h1, b1, m1, w1⟩; dsimp only at h1 b1 m1 w1; refine ⟨by decide_cbv, ?_⟩
    conv => cbv
    refine call_E hC (by kernel_rfl) (rappend_v (l := l) (d := d) hk hki (by omega) (by omega) hcl hnl hcd hnd) ?_; rintro ⟨⟨L2, s2, t2⟩, e2, c2, n2⟩ ⟨h2, b2, m2, w2⟩; dsimp only at h2 b2 m2 w2; rw [h1] at h2; cases h2; refine ⟨by decide_cbv, ?_⟩
    conv => cbv
    refine call_p hC (by kernel_rfl) (valid_v hcl hnl hv) ⟨by decide_cbv, ?_⟩
    conv => cbv
    refine call_p hC (by kernel_rfl) (rvalid_v hcl hnl hv) ⟨by decide_cbv, ?_⟩
    conv => cbv
    first | refine call_p hC (by kernel_rfl) (does_data (samelog_o b1 m1 w1 b2 m2 w2) rfl) ⟨by decide_cbv, ?_⟩ | refine call_p hC (by kernel_rfl) (does_data (samelog_o b3 m3 w3 b4 m4 w4) rfl) ⟨by decide_cbv, ?_⟩
    conv => cbv
    have e55 : (p.cmp .eql e1 e1) = true := by rw [p_cmp_eql hp]; exact decide_eq_true (by omega)
    simp only [e55]; clear e55
    conv => cbv
    refine call_E hC (by kernel_rfl) (sync_v (l := l) (by omega) hcl hnl) ?_; rintro ⟨⟨L3, s3, t3⟩, c3, n3⟩ ⟨h3, b3, m3, w3⟩; dsimp only at h3 b3 m3 w3; refine ⟨by decide_cbv, ?_⟩
    conv => cbv
    refine call_E hC (by kernel_rfl) (rsync_v (l := l) (by omega) hcl hnl) ?_; rintro ⟨⟨L4, s4, t4⟩, c4, n4⟩ ⟨h4, b4, m4, w4⟩; dsimp only at h4 b4 m4 w4; rw [h3] at h4; cases h4; refine ⟨by decide_cbv, ?_⟩
    conv => cbv
    first | refine call_p hC (by kernel_rfl) (does_data (samelog_o b1 m1 w1 b2 m2 w2) rfl) ⟨by decide_cbv, ?_⟩ | refine call_p hC (by kernel_rfl) (does_data (samelog_o b3 m3 w3 b4 m4 w4) rfl) ⟨by decide_cbv, ?_⟩
    conv => cbv
    refine call_E hC (by kernel_rfl) (crash_v (l := l) (by omega) hcl hnl) ?_; rintro ⟨L5, c5, n5⟩ ⟨h5, b5, m5, w5⟩; dsimp only at h5 b5 m5 w5; refine ⟨by decide_cbv, ?_⟩
    conv => cbv
    have ez60 : (p.len c5) = n5 := by rw [p_len hp]; exact w5
    simp only [ez60]; clear ez60
    conv => cbv
    have ez61 : (p.nm n5 1) = n5 := by rw [p_nm hp]; omega
    simp only [ez61]; clear ez61
    conv => cbv
    have e62 : (p.neq n5 n5) = true := p_neq hp (by omega)
    simp only [e62]; clear e62
    conv => cbv
    simp only [p_sof hp b5]
    conv => cbv
    refine call_E hC (by kernel_rfl) (rcrash_v (l := l) (by omega) hcl hnl) ?_; rintro ⟨L6, c6, n6⟩ ⟨h6, b6, m6, w6⟩; dsimp only at h6 b6 m6 w6; rw [h5] at h6; cases h6; refine ⟨by decide_cbv, ?_⟩
    conv => cbv
    have ez64 : (p.len c6) = n6 := by rw [p_len hp]; exact w6
    simp only [ez64]; clear ez64
    conv => cbv
    have ez65 : (p.nm n6 1) = n6 := by rw [p_nm hp]; omega
    simp only [ez65]; clear ez65
    conv => cbv
    have e66 : (p.neq n6 n6) = true := p_neq hp (by omega)
    simp only [e66]; clear e66
    conv => cbv
    simp only [p_sof hp b6]
    conv => cbv
    have e67 : (p.seq ({ data := { toList := L5 } }) ({ data := { toList := L5 } })) = true := p_seqT hp rfl
    simp only [e67]; clear e67
    conv => cbv
    refine call_p hC (by kernel_rfl) lives_v ⟨by decide_cbv, ?_⟩
    conv => cbv
    exact back_same rfl
end Go.Proofs.Ytmkbnmjhkghdjaa
