/- Chapter 20: Append. -/
import Derived.Test.YtmkbnmjhkghdjaaB0
set_option linter.unusedVariables false
set_option linter.unusedSimpArgs false
namespace Go.Proofs.Ytmkbnmjhkghdjaa
open Go.RowKit
set_option maxHeartbeats 4000000
set_option maxRecDepth 10000
theorem append_o {l d : List UInt8} {sy ct : Int} {k nl nd nr : Nat} {ki e sy' ct' : Int} {cl cd cr : List DV} {lr : List UInt8} (hk : k < 256) (hki : (k : Int) = ki) (hl : nl ≤ 100000) (hd : nd ≤ 100000) (hcl : bytesD l = cl) (hnl : l.length = nl) (hcd : bytesD d = cd) (hnd : d.length = nd)
    (hR : appendR l sy ct k d = ((lr, sy', ct'), e)) (hcr : bytesD lr = cr) (hnr : lr.length = nr) : DoesO Try.prog (fun _ => none) 25 [.agg [.d (.dl cl nl none), aInt .i64 sy, aInt .i64 ct], .agg [aInt .u8 ki, .d (.dl cd nd none)]] [] (.tup [.agg [.d (.dl cr nr none), aInt .i64 sy', aInt .i64 ct'], aInt .u8 e]) [] := by
  have wl : cl.length = nl := by rw [← hcl, bytesD_length, hnl]
  have wd : cd.length = nd := by rw [← hcd, bytesD_length, hnd]
  unfold appendR at hR
  obtain ⟨L0, e0, hE⟩ : ∃ a b, encodeR ct k d = (a, b) := ⟨_, _, rfl⟩
  rw [hE] at hR
  dsimp only at hR
  refine does_p KK (fn := Try.f25) Try.func25 rfl (by show 2 ≤ _; decide) ?_
  intro C F p hC hF hp
  cases hv : validL l sy ct with
  | false =>
    rw [if_pos hv] at hR
    cases hR
    subst hcr hnr
    conv => cbv
    refine call_p hC (by kernel_rfl) (valid_v hcl hnl hv) ⟨by decide_cbv, ?_⟩
    conv => cbv
    refine back_tell ?_; (repeat' first | exact wk_end | exact wk_same rfl rfl | exact wk_nil | exact wk_i (by omega) | exact wk_b (by first | rfl | assumption) | exact wk_dl (by first | rfl | assumption | (simp only [*])) (by omega) | exact wk_rowE rfl (by omega) (by first | rfl | assumption | (simp only [*])) (by omega) | refine wk_tup ?_ | refine wk_agg ?_ | refine wk_cons ?_ ?_)
  | true =>
    have hv' := validL_iff.1 hv
    rw [if_neg (by rw [hv]; simp)] at hR
    by_cases h7 : ct = 1048576
    · rw [if_pos h7] at hR
      cases hR
      subst hcr hnr
      conv => cbv
      refine call_p hC (by kernel_rfl) (valid_v hcl hnl hv) ⟨by decide_cbv, ?_⟩
      conv => cbv
      have e3 : (p.cmp .geq ct 1048576) = true := by rw [p_cmp_geq hp]; exact decide_eq_true (by omega)
      simp only [e3]; clear e3
      conv => cbv
      refine back_tell ?_; (repeat' first | exact wk_end | exact wk_same rfl rfl | exact wk_nil | exact wk_i (by omega) | exact wk_b (by first | rfl | assumption) | exact wk_dl (by first | rfl | assumption | (simp only [*])) (by omega) | exact wk_rowE rfl (by omega) (by first | rfl | assumption | (simp only [*])) (by omega) | refine wk_tup ?_ | refine wk_agg ?_ | refine wk_cons ?_ ?_)
    rw [if_neg h7] at hR
    by_cases h8 : e0 = 0
    · rw [if_neg (by simp [h8])] at hR
      simp only [Prod.mk.injEq] at hR
      obtain ⟨⟨hr1, hr2, hr3⟩, hr4⟩ := hR
      subst h8 hr1 hr2 hr4
      have hL : L0.length ≤ 5000 := by
        unfold encodeR at hE
        split at hE
        · cases hE
        · split at hE
          · cases hE
          · cases hE
            unfold recR headR
            simp only [List.length_append, beN_length]
            show (enc _).length + _ + 4 ≤ 5000
            have : (enc [(167, 1), (k, 1), (ct.toNat, 4), (d.length, 2), (65535 - d.length, 2)]).length = 10 := by simp [enc, beN_length]
            omega
      conv => cbv
      refine call_p hC (by kernel_rfl) (valid_v hcl hnl hv) ⟨by decide_cbv, ?_⟩
      conv => cbv
      have e6 : (p.cmp .geq ct 1048576) = false := by rw [p_cmp_geq hp]; exact decide_eq_false (by omega)
      simp only [e6]; clear e6
      conv => cbv
      refine call_E hC (by kernel_rfl) (encode_v (l := d) hk hki (by omega) hcd hnd) ?_; rintro ⟨L1, e1, c1, n1⟩ ⟨h1, b1, m1, w1⟩; dsimp only at h1 b1 m1 w1; rw [hE] at h1; cases h1; refine ⟨by decide_cbv, ?_⟩
      conv => cbv
      have e9 : (p.cmp .neq 0 0) = false := by rw [p_cmp_neq hp]; exact decide_eq_false (by omega)
      simp only [e9]; clear e9
      conv => cbv
      refine call_E hC (by kernel_rfl) (joined_v (by omega) hcl hnl b1 m1) ?_; rintro ⟨c2, n2⟩ ⟨h2, m2, w2⟩; dsimp only at h2 m2 w2; refine ⟨by decide_cbv, ?_⟩
      conv => cbv
      obtain ⟨z11, hz11⟩ : ∃ z : Int, z = ct + 1 := ⟨_, rfl⟩
      have ez11 : (p.ar .add .i64 ct 1) = z11 := by rw [hz11]; exact p_add hp (by omega) (by omega)
      simp only [ez11]
      conv => cbv
      refine back_tell (wk_tup (wk_cons (wk_agg (wk_cons ?_ (wk_cons (wk_same rfl rfl) (wk_cons (wk_i (by omega)) wk_end)))) (wk_cons (wk_same rfl rfl) wk_end)))
      first
        | exact wk_dl (hcr.symm.trans h2) (by omega)
        | exact wk_rowE rfl (by omega) (by rw [← hcr, bytesD_append, hcl, b1]; simp only [*]) (by rw [← hnr, List.length_append]; omega)
    · rw [if_pos h8] at hR
      cases hR
      subst hcr hnr
      conv => cbv
      refine call_p hC (by kernel_rfl) (valid_v hcl hnl hv) ⟨by decide_cbv, ?_⟩
      conv => cbv
      have e14 : (p.cmp .geq ct 1048576) = false := by rw [p_cmp_geq hp]; exact decide_eq_false (by omega)
      simp only [e14]; clear e14
      conv => cbv
      refine call_E hC (by kernel_rfl) (encode_v (l := d) hk hki (by omega) hcd hnd) ?_; rintro ⟨L1, e1, c1, n1⟩ ⟨h1, b1, m1, w1⟩; dsimp only at h1 b1 m1 w1; rw [hE] at h1; cases h1; refine ⟨by decide_cbv, ?_⟩
      conv => cbv
      have e16 : (p.cmp .neq e 0) = true := by rw [p_cmp_neq hp]; exact decide_eq_true (by omega)
      simp only [e16]; clear e16
      conv => cbv
      refine back_tell ?_; (repeat' first | exact wk_end | exact wk_same rfl rfl | exact wk_nil | exact wk_i (by omega) | exact wk_b (by first | rfl | assumption) | exact wk_dl (by first | rfl | assumption | (simp only [*])) (by omega) | exact wk_rowE rfl (by omega) (by first | rfl | assumption | (simp only [*])) (by omega) | refine wk_tup ?_ | refine wk_agg ?_ | refine wk_cons ?_ ?_)
theorem rappend_o {l d : List UInt8} {sy ct : Int} {k nl nd nr : Nat} {ki e sy' ct' : Int} {cl cd cr : List DV} {lr : List UInt8} (hk : k < 256) (hki : (k : Int) = ki) (hl : nl ≤ 100000) (hd : nd ≤ 100000) (hcl : bytesD l = cl) (hnl : l.length = nl) (hcd : bytesD d = cd) (hnd : d.length = nd)
    (hR : appendR l sy ct k d = ((lr, sy', ct'), e)) (hcr : bytesD lr = cr) (hnr : lr.length = nr) : DoesO Try.prog (fun _ => none) 26 [.agg [.d (.dl cl nl none), aInt .i64 sy, aInt .i64 ct], .agg [aInt .u8 ki, .d (.dl cd nd none)]] [] (.tup [.agg [.d (.dl cr nr none), aInt .i64 sy', aInt .i64 ct'], aInt .u8 e]) [] := by
  have wl : cl.length = nl := by rw [← hcl, bytesD_length, hnl]
  have wd : cd.length = nd := by rw [← hcd, bytesD_length, hnd]
  unfold appendR at hR
  obtain ⟨L0, e0, hE⟩ : ∃ a b, encodeR ct k d = (a, b) := ⟨_, _, rfl⟩
  rw [hE] at hR
  dsimp only at hR
  refine does_p KK (fn := Try.f26) Try.func26 rfl (by show 2 ≤ _; decide) ?_
  intro C F p hC hF hp
  cases hv : validL l sy ct with
  | false =>
    rw [if_pos hv] at hR
    cases hR
    subst hcr hnr
    conv => cbv
    refine call_p hC (by kernel_rfl) (rvalid_v hcl hnl hv) ⟨by decide_cbv, ?_⟩
    conv => cbv
    refine back_tell ?_; (repeat' first | exact wk_end | exact wk_same rfl rfl | exact wk_nil | exact wk_i (by omega) | exact wk_b (by first | rfl | assumption) | exact wk_dl (by first | rfl | assumption | (simp only [*])) (by omega) | exact wk_rowE rfl (by omega) (by first | rfl | assumption | (simp only [*])) (by omega) | refine wk_tup ?_ | refine wk_agg ?_ | refine wk_cons ?_ ?_)
  | true =>
    have hv' := validL_iff.1 hv
    rw [if_neg (by rw [hv]; simp)] at hR
    by_cases h7 : ct = 1048576
    · rw [if_pos h7] at hR
      cases hR
      subst hcr hnr
      conv => cbv
      refine call_p hC (by kernel_rfl) (rvalid_v hcl hnl hv) ⟨by decide_cbv, ?_⟩
      conv => cbv
      have e19 : (p.cmp .eql ct 1048576) = true := by rw [p_cmp_eql hp]; exact decide_eq_true (by omega)
      simp only [e19]; clear e19
      conv => cbv
      refine back_tell ?_; (repeat' first | exact wk_end | exact wk_same rfl rfl | exact wk_nil | exact wk_i (by omega) | exact wk_b (by first | rfl | assumption) | exact wk_dl (by first | rfl | assumption | (simp only [*])) (by omega) | exact wk_rowE rfl (by omega) (by first | rfl | assumption | (simp only [*])) (by omega) | refine wk_tup ?_ | refine wk_agg ?_ | refine wk_cons ?_ ?_)
    rw [if_neg h7] at hR
    by_cases h8 : e0 = 0
    · rw [if_neg (by simp [h8])] at hR
      simp only [Prod.mk.injEq] at hR
      obtain ⟨⟨hr1, hr2, hr3⟩, hr4⟩ := hR
      subst h8 hr1 hr2 hr4
      have hL : L0.length ≤ 5000 := by
        unfold encodeR at hE
        split at hE
        · cases hE
        · split at hE
          · cases hE
          · cases hE
            unfold recR headR
            simp only [List.length_append, beN_length]
            show (enc _).length + _ + 4 ≤ 5000
            have : (enc [(167, 1), (k, 1), (ct.toNat, 4), (d.length, 2), (65535 - d.length, 2)]).length = 10 := by simp [enc, beN_length]
            omega
      conv => cbv
      refine call_p hC (by kernel_rfl) (rvalid_v hcl hnl hv) ⟨by decide_cbv, ?_⟩
      conv => cbv
      have e22 : (p.cmp .eql ct 1048576) = false := by rw [p_cmp_eql hp]; exact decide_eq_false (by omega)
      simp only [e22]; clear e22
      conv => cbv
      refine call_E hC (by kernel_rfl) (rencode_v (l := d) hk hki (by omega) hcd hnd) ?_; rintro ⟨L1, e1, c1, n1⟩ ⟨h1, b1, m1, w1⟩; dsimp only at h1 b1 m1 w1; rw [hE] at h1; cases h1; refine ⟨by decide_cbv, ?_⟩
      conv => cbv
      have e25 : (p.cmp .neq 0 0) = false := by rw [p_cmp_neq hp]; exact decide_eq_false (by omega)
      simp only [e25]; clear e25
      conv => cbv
      refine call_p hC (by kernel_rfl) (copied_w (r := 900026) (by omega) hcl hnl rfl) ⟨by decide_cbv, ?_⟩
      conv => cbv
      have ez27 : (p.len c1) = n1 := by rw [p_len hp]; exact w1
      simp only [ez27]; clear ez27
      conv => cbv
      have ez28 : (p.nm n1 1) = n1 := by rw [p_nm hp]; omega
      simp only [ez28]; clear ez28
      conv => cbv
      have e29 : (p.neq n1 n1) = true := p_neq hp (by omega)
      simp only [e29]; clear e29
      conv => cbv
      have e30 : (p.neq 0 0) = true := p_neq hp (by omega)
      simp only [e30]; clear e30
      conv => cbv
      have ez31 : (p.nm nl 1) = nl := by rw [p_nm hp]; omega
      simp only [ez31]; clear ez31
      conv => cbv
      have ez32 : (p.len cl) = nl := by rw [p_len hp]; exact wl
      simp only [ez32]; clear ez32
      conv => cbv
      have e33 : (p.neq nl nl) = true := p_neq hp (by omega)
      simp only [e33]; clear e33
      conv => cbv
      have e34 : (p.fit nl n1 1) = true := p_fit hp (by omega) (by show _ ≤ 9223372036854775807; omega)
      simp only [e34]; clear e34
      conv => cbv
      obtain ⟨z35, hz35⟩ : ∃ z : Nat, z = nl + n1 := ⟨_, rfl⟩
      have ez35 : (p.na nl n1) = z35 := by rw [hz35]; exact p_na hp
      simp only [ez35]
      conv => cbv
      obtain ⟨z36, hz36⟩ : ∃ z : Int, z = ct + 1 := ⟨_, rfl⟩
      have ez36 : (p.ar .add .i64 ct 1) = z36 := by rw [hz36]; exact p_add hp (by omega) (by omega)
      simp only [ez36]
      conv => cbv
      obtain ⟨z37, hz37⟩ : ∃ z : List DV, z = cl ++ c1 := ⟨_, rfl⟩
      have ez37 : (p.app cl c1) = z37 := by rw [hz37]; exact p_app hp
      simp only [ez37]
      have lz37 : z37.length = (cl).length + (c1).length := by rw [hz37]; simp only [List.length_append, List.length_cons, List.length_nil] <;> omega
      conv => cbv
      refine back_tell (wk_tup (wk_cons (wk_agg (wk_cons ?_ (wk_cons (wk_same rfl rfl) (wk_cons (wk_i (by omega)) wk_end)))) (wk_cons (wk_same rfl rfl) wk_end)))
      first
        | exact wk_dl (hcr.symm.trans h2) (by omega)
        | exact wk_rowE rfl (by omega) (by rw [← hcr, bytesD_append, hcl, b1]; simp only [*]) (by rw [← hnr, List.length_append]; omega)
    · rw [if_pos h8] at hR
      cases hR
      subst hcr hnr
      conv => cbv
      refine call_p hC (by kernel_rfl) (rvalid_v hcl hnl hv) ⟨by decide_cbv, ?_⟩
      conv => cbv
      have e40 : (p.cmp .eql ct 1048576) = false := by rw [p_cmp_eql hp]; exact decide_eq_false (by omega)
      simp only [e40]; clear e40
      conv => cbv
      refine call_E hC (by kernel_rfl) (rencode_v (l := d) hk hki (by omega) hcd hnd) ?_; rintro ⟨L1, e1, c1, n1⟩ ⟨h1, b1, m1, w1⟩; dsimp only at h1 b1 m1 w1; rw [hE] at h1; cases h1; refine ⟨by decide_cbv, ?_⟩
      conv => cbv
      have e42 : (p.cmp .neq e 0) = true := by rw [p_cmp_neq hp]; exact decide_eq_true (by omega)
      simp only [e42]; clear e42
      conv => cbv
      refine back_tell ?_; (repeat' first | exact wk_end | exact wk_same rfl rfl | exact wk_nil | exact wk_i (by omega) | exact wk_b (by first | rfl | assumption) | exact wk_dl (by first | rfl | assumption | (simp only [*])) (by omega) | exact wk_rowE rfl (by omega) (by first | rfl | assumption | (simp only [*])) (by omega) | refine wk_tup ?_ | refine wk_agg ?_ | refine wk_cons ?_ ?_)
end Go.Proofs.Ytmkbnmjhkghdjaa
