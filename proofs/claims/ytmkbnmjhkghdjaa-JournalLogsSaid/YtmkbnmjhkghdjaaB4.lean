/- Chapter 20: Sync and Crash. -/
import Derived.Test.YtmkbnmjhkghdjaaB3
set_option linter.unusedVariables false
set_option linter.unusedSimpArgs false
namespace Go.Proofs.Ytmkbnmjhkghdjaa
open Go.RowKit
set_option maxHeartbeats 4000000
set_option maxRecDepth 10000
theorem nrmL_bytes : ∀ l : List UInt8, nrmL (bytesD l) = bytesD l
  | [] => rfl
  | b :: l => by
    have h := nrmL_bytes l
    unfold bytesD at h ⊢
    rw [List.map_cons, nrmL, h]
    rfl
theorem td_bytes {hp : Nat → Option AO} {l : List UInt8} {cs : List DV} {n : Nat} {c : Option Nat} (h : bytesD l = cs) : TdD hp (.dl cs n none) (.d (.dl cs n c)) := by
  subst h; exact .inr (by rw [nrm, nrmL_bytes])
theorem td_nil {hp : Nat → Option AO} : TdD hp (.dl [] 0 none) (.d (.val (.slice none 0 0))) := .inr rfl
/-- joined, its arguments told. -/
theorem joined_t {na nb : Nat} {a b : List UInt8} {ca cb : List DV} {xa xb : AV} {rd : Nat → Option AO} (ta : TdD (fun _ => none) (.dl ca na none) xa) (tb : TdD (fun _ => none) (.dl cb nb none) xb) (hl : na + nb ≤ 1000000000) (ha : bytesD a = ca) (hna : a.length = na) (hb : bytesD b = cb) (hnb : b.length = nb) :
    ∃ R : List DV × Nat, (bytesD (a ++ b) = R.1 ∧ (a ++ b).length = R.2 ∧ R.1.length = R.2) ∧ Does Try.prog (fun _ => none) 37 [xa, xb] [] (.d (.dl R.1 R.2 none)) [] rd := by
  obtain ⟨R, h1, h2⟩ := joined_v (rd := rd) hl ha hna hb hnb
  refine ⟨R, h1, does_told h2 ?_⟩
  rw [TdL]
  refine ⟨_, _, rfl, by rw [TdV]; exact ta, ?_⟩
  rw [TdL]
  exact ⟨_, _, rfl, by rw [TdV]; exact tb, by rw [TdL]⟩
theorem copied_t {na : Nat} {a : List UInt8} {ca : List DV} {xa : AV} {rd : Nat → Option AO} (ta : TdD (fun _ => none) (.dl ca na none) xa) (hl : na ≤ 1000000000) (ha : bytesD a = ca) (hna : a.length = na) : Does Try.prog (fun _ => none) 38 [xa] [] (.d (.dl ca na none)) [] rd := by
  refine does_told (copied_v hl ha hna) ?_
  rw [TdL]
  exact ⟨_, _, rfl, by rw [TdV]; exact ta, by rw [TdL]⟩
def syncR (l : List UInt8) (sy ct : Int) : List UInt8 × Int × Int := if validL l sy ct = false then ([], 0, 0) else (l, (l.length : Int), ct)
def crashR (l : List UInt8) (sy ct keep : Int) : List UInt8 := if validL l sy ct = false then [] else l.take (min (max sy keep) (l.length : Int)).toNat
theorem sync_o {l : List UInt8} {sy ct : Int} {nl nr : Nat} {sy' ct' : Int} {cl cr : List DV} {lr : List UInt8} (hl : nl ≤ 100000) (hcl : bytesD l = cl) (hnl : l.length = nl)
    (hR : syncR l sy ct = (lr, sy', ct')) (hcr : bytesD lr = cr) (hnr : lr.length = nr) : DoesO Try.prog (fun _ => none) 29 [.agg [.d (.dl cl nl none), aInt .i64 sy, aInt .i64 ct]] [] (.agg [.d (.dl cr nr none), aInt .i64 sy', aInt .i64 ct']) [] := by
  have wl : cl.length = nl := by rw [← hcl, bytesD_length, hnl]
  unfold syncR at hR
  refine does_p KK (fn := Try.f29) Try.func29 rfl (by show 1 ≤ _; decide) ?_
  intro C F p hC hF hp
  cases hv : validL l sy ct with
  | false =>
    rw [if_pos hv] at hR
    cases hR
    subst hcr hnr
    conv => cbv
    refine call_p hC (by kernel_rfl) (valid_v hcl hnl hv) ⟨by decide_cbv, ?_⟩
    conv => cbv
    refine back_tell ?_; (repeat' first | exact wk_end | exact wk_same rfl rfl | exact wk_nil | exact wk_i (by omega) | exact wk_b (by first | rfl | assumption) | exact wk_dl (by first | rfl | assumption | (simp only [*])) (by omega) | exact wk_rowE rfl (by omega) (by first | rfl | assumption | (simp only [*])) (by omega) | refine wk_tup ?_ | refine wk_agg ?_ | refine wk_cons ?_ ?_)
  | true =>
    have hv' := validL_iff.1 hv
    rw [if_neg (by rw [hv]; simp)] at hR
    simp only [Prod.mk.injEq] at hR
    obtain ⟨hr1, hr2, hr3⟩ := hR
    subst hr1 hr3
    conv => cbv
    refine call_p hC (by kernel_rfl) (valid_v hcl hnl hv) ⟨by decide_cbv, ?_⟩
    conv => cbv
    refine call_E hC (by kernel_rfl) (joined_t (b := []) (nb := 0) (.inl rfl) td_nil (by omega) hcl hnl rfl rfl) ?_; rintro ⟨c2, n2⟩ ⟨h2, m2, w2⟩; dsimp only at h2 m2 w2; refine ⟨by decide_cbv, ?_⟩
    conv => cbv
    obtain ⟨z4, hz4⟩ : ∃ z : Int, z = ((nl : Nat) : Int) := ⟨_, rfl⟩
    have ez4 : (p.zi nl) = z4 := by rw [hz4]; exact p_zi hp
    simp only [ez4]
    conv => cbv
    refine back_tell (wk_agg (wk_cons ?_ (wk_cons (wk_i (by omega)) (wk_cons (wk_same rfl rfl) wk_end))))
    first
      | exact wk_dl (by rw [← hcr, ← h2, List.append_nil]) (by rw [List.append_nil] at m2; omega)
      | exact wk_dl (hcr.symm.trans hcl) (by omega)
theorem rsync_o {l : List UInt8} {sy ct : Int} {nl nr : Nat} {sy' ct' : Int} {cl cr : List DV} {lr : List UInt8} (hl : nl ≤ 100000) (hcl : bytesD l = cl) (hnl : l.length = nl)
    (hR : syncR l sy ct = (lr, sy', ct')) (hcr : bytesD lr = cr) (hnr : lr.length = nr) : DoesO Try.prog (fun _ => none) 30 [.agg [.d (.dl cl nl none), aInt .i64 sy, aInt .i64 ct]] [] (.agg [.d (.dl cr nr none), aInt .i64 sy', aInt .i64 ct']) [] := by
  have wl : cl.length = nl := by rw [← hcl, bytesD_length, hnl]
  unfold syncR at hR
  refine does_p KK (fn := Try.f30) Try.func30 rfl (by show 1 ≤ _; decide) ?_
  intro C F p hC hF hp
  cases hv : validL l sy ct with
  | false =>
    rw [if_pos hv] at hR
    cases hR
    subst hcr hnr
    conv => cbv
    refine call_p hC (by kernel_rfl) (rvalid_v hcl hnl hv) ⟨by decide_cbv, ?_⟩
    conv => cbv
    refine back_tell ?_; (repeat' first | exact wk_end | exact wk_same rfl rfl | exact wk_nil | exact wk_i (by omega) | exact wk_b (by first | rfl | assumption) | exact wk_dl (by first | rfl | assumption | (simp only [*])) (by omega) | exact wk_rowE rfl (by omega) (by first | rfl | assumption | (simp only [*])) (by omega) | refine wk_tup ?_ | refine wk_agg ?_ | refine wk_cons ?_ ?_)
  | true =>
    have hv' := validL_iff.1 hv
    rw [if_neg (by rw [hv]; simp)] at hR
    simp only [Prod.mk.injEq] at hR
    obtain ⟨hr1, hr2, hr3⟩ := hR
    subst hr1 hr3
    conv => cbv
    refine call_p hC (by kernel_rfl) (rvalid_v hcl hnl hv) ⟨by decide_cbv, ?_⟩
    conv => cbv
    refine call_p hC (by kernel_rfl) (copied_t (.inl rfl) (by omega) hcl hnl) ⟨by decide_cbv, ?_⟩
    conv => cbv
    obtain ⟨z8, hz8⟩ : ∃ z : Int, z = ((nl : Nat) : Int) := ⟨_, rfl⟩
    have ez8 : (p.zi nl) = z8 := by rw [hz8]; exact p_zi hp
    simp only [ez8]
    conv => cbv
    refine back_tell (wk_agg (wk_cons ?_ (wk_cons (wk_i (by omega)) (wk_cons (wk_same rfl rfl) wk_end))))
    first
      | exact wk_dl (by rw [← hcr, ← h2, List.append_nil]) (by rw [List.append_nil] at m2; omega)
      | exact wk_dl (hcr.symm.trans hcl) (by omega)
theorem bytes_take {l : List UInt8} {cl z : List DV} {j : Nat} (hcl : bytesD l = cl) (hz : z = List.take j (List.drop 0 cl)) : bytesD (l.take j) = z := by
  rw [hz, List.drop_zero, ← hcl]; unfold bytesD; rw [List.map_take]
theorem crash_o {l : List UInt8} {sy ct keep : Int} {nl nr : Nat} {cl cr : List DV} {lr : List UInt8} (hl : nl ≤ 100000) (hcl : bytesD l = cl) (hnl : l.length = nl)
    (hR : crashR l sy ct keep = lr) (hcr : bytesD lr = cr) (hnr : lr.length = nr) : DoesO Try.prog (fun _ => none) 24 [.agg [.d (.dl cl nl none), aInt .i64 sy, aInt .i64 ct], aInt .i64 keep] [] (.d (.dl cr nr none)) [] := by
  have wl : cl.length = nl := by rw [← hcl, bytesD_length, hnl]
  unfold crashR at hR
  refine does_p KK (fn := Try.f24) Try.func24 rfl (by show 2 ≤ _; decide) ?_
  intro C F p hC hF hp
  cases hv : validL l sy ct with
  | false =>
    rw [if_pos hv] at hR
    subst hR hcr hnr
    conv => cbv
    refine call_p hC (by kernel_rfl) (valid_v hcl hnl hv) ⟨by decide_cbv, ?_⟩
    conv => cbv
    refine back_tell ?_; (repeat' first | exact wk_end | exact wk_same rfl rfl | exact wk_nil | exact wk_i (by omega) | exact wk_b (by first | rfl | assumption) | exact wk_dl (by first | rfl | assumption | (simp only [*])) (by omega) | exact wk_rowE rfl (by omega) (by first | rfl | assumption | (simp only [*])) (by omega) | refine wk_tup ?_ | refine wk_agg ?_ | refine wk_cons ?_ ?_)
  | true =>
    have hv' := validL_iff.1 hv
    rw [if_neg (by rw [hv]; simp)] at hR
    conv => cbv
    refine call_p hC (by kernel_rfl) (valid_v hcl hnl hv) ⟨by decide_cbv, ?_⟩
    conv => cbv
    obtain ⟨z11, hz11⟩ : ∃ z : Int, z = max sy keep := ⟨_, rfl⟩
    have ez11 : (p.mx sy keep) = z11 := by rw [hz11]; exact p_mx hp
    simp only [ez11]
    conv => cbv
    obtain ⟨z12, hz12⟩ : ∃ z : Int, z = ((nl : Nat) : Int) := ⟨_, rfl⟩
    have ez12 : (p.zi nl) = z12 := by rw [hz12]; exact p_zi hp
    simp only [ez12]
    conv => cbv
    obtain ⟨z13, hz13⟩ : ∃ z : Int, z = min z11 z12 := ⟨_, rfl⟩
    have ez13 : (p.mn z11 z12) = z13 := by rw [hz13]; exact p_mn hp
    simp only [ez13]
    conv => cbv
    obtain ⟨j14, hj14, lj14, ej14⟩ := p_ixleE (i := z13) (n := nl) hp (by omega) (by omega)
    simp only [ej14]
    conv => cbv
    obtain ⟨j15, hj15, lj15, ej15⟩ := p_ixleE (i := z13) (n := j14) hp (by omega) (by omega)
    simp only [ej15]
    conv => cbv
    have ez16 : (p.nm 0 1) = 0 := by rw [hp]; rfl
    simp only [ez16]; clear ez16
    conv => cbv
    have ez17 : (p.ns j15 0) = j15 := by rw [p_ns hp]; omega
    simp only [ez17]; clear ez17
    conv => cbv
    have ez18 : (p.nm j15 1) = j15 := by rw [p_nm hp]; omega
    simp only [ez18]; clear ez18
    conv => cbv
    obtain ⟨z19, hz19⟩ : ∃ z : List DV, z = ((cl).drop 0).take j15 := ⟨_, rfl⟩
    have ez19 : (p.cut cl 0 j15) = z19 := by rw [hz19]; exact p_cutE hp
    simp only [ez19]
    have lz19 : z19.length = min j15 ((cl).length - 0) := by rw [hz19]; simp only [List.length_take, List.length_drop, List.length_cons, List.length_nil] <;> omega
    conv => cbv
    have ez20 : (p.ns j14 0) = j14 := by rw [p_ns hp]; omega
    simp only [ez20]; clear ez20
    conv => cbv
    have hz : bytesD (l.take j15) = z19 := bytes_take hcl hz19
    refine call_E hC (by kernel_rfl) (joined_t (a := l.take j15) (na := j15) (b := []) (nb := 0) (td_bytes hz) td_nil (by omega) hz (by rw [List.length_take]; omega) rfl rfl) ?_
    rintro ⟨c2, n2⟩ ⟨h2, m2, w2⟩
    dsimp only at h2 m2 w2
    refine ⟨by decide_cbv, ?_⟩
    conv => cbv
    rw [List.append_nil] at h2 m2
    have e : (min (max sy keep) (l.length : Int)).toNat = j15 := by omega
    rw [e] at hR
    subst hR
    exact back_tell (wk_dl (hcr.symm.trans h2) (by omega))
theorem rcrash_o {l : List UInt8} {sy ct keep : Int} {nl nr : Nat} {cl cr : List DV} {lr : List UInt8} (hl : nl ≤ 100000) (hcl : bytesD l = cl) (hnl : l.length = nl)
    (hR : crashR l sy ct keep = lr) (hcr : bytesD lr = cr) (hnr : lr.length = nr) : DoesO Try.prog (fun _ => none) 31 [.agg [.d (.dl cl nl none), aInt .i64 sy, aInt .i64 ct], aInt .i64 keep] [] (.d (.dl cr nr none)) [] := by
  have wl : cl.length = nl := by rw [← hcl, bytesD_length, hnl]
  unfold crashR at hR
  refine does_p KK (fn := Try.f31) Try.func31 rfl (by show 2 ≤ _; decide) ?_
  intro C F p hC hF hp
  cases hv : validL l sy ct with
  | false =>
    rw [if_pos hv] at hR
    subst hR hcr hnr
    conv => cbv
    refine call_p hC (by kernel_rfl) (rvalid_v hcl hnl hv) ⟨by decide_cbv, ?_⟩
    conv => cbv
    refine back_tell ?_; (repeat' first | exact wk_end | exact wk_same rfl rfl | exact wk_nil | exact wk_i (by omega) | exact wk_b (by first | rfl | assumption) | exact wk_dl (by first | rfl | assumption | (simp only [*])) (by omega) | exact wk_rowE rfl (by omega) (by first | rfl | assumption | (simp only [*])) (by omega) | refine wk_tup ?_ | refine wk_agg ?_ | refine wk_cons ?_ ?_)
  | true =>
    have hv' := validL_iff.1 hv
    rw [if_neg (by rw [hv]; simp)] at hR
    by_cases hm : min keep (nl : Int) < sy
    · conv => cbv
      refine call_p hC (by kernel_rfl) (rvalid_v hcl hnl hv) ⟨by decide_cbv, ?_⟩
      conv => cbv
      obtain ⟨z24, hz24⟩ : ∃ z : Int, z = ((nl : Nat) : Int) := ⟨_, rfl⟩
      have ez24 : (p.zi nl) = z24 := by rw [hz24]; exact p_zi hp
      simp only [ez24]
      conv => cbv
      obtain ⟨z25, hz25⟩ : ∃ z : Int, z = min keep z24 := ⟨_, rfl⟩
      have ez25 : (p.mn keep z24) = z25 := by rw [hz25]; exact p_mn hp
      simp only [ez25]
      conv => cbv
      have e26 : (p.cmp .lss z25 sy) = true := by rw [p_cmp_lss hp]; exact decide_eq_true (by omega)
      simp only [e26]; clear e26
      conv => cbv
      obtain ⟨j27, hj27, lj27, ej27⟩ := p_ixleE (i := sy) (n := nl) hp (by omega) (by omega)
      simp only [ej27]
      conv => cbv
      have ez28 : (p.nm 0 1) = 0 := by rw [hp]; rfl
      simp only [ez28]; clear ez28
      conv => cbv
      have ez29 : (p.ns j27 0) = j27 := by rw [p_ns hp]; omega
      simp only [ez29]; clear ez29
      conv => cbv
      have ez30 : (p.nm j27 1) = j27 := by rw [p_nm hp]; omega
      simp only [ez30]; clear ez30
      conv => cbv
      obtain ⟨z31, hz31⟩ : ∃ z : List DV, z = ((cl).drop 0).take j27 := ⟨_, rfl⟩
      have ez31 : (p.cut cl 0 j27) = z31 := by rw [hz31]; exact p_cutE hp
      simp only [ez31]
      have lz31 : z31.length = min j27 ((cl).length - 0) := by rw [hz31]; simp only [List.length_take, List.length_drop, List.length_cons, List.length_nil] <;> omega
      conv => cbv
      have hz : bytesD (l.take j27) = z31 := bytes_take hcl hz31
      refine call_p hC (by kernel_rfl) (copied_t (a := l.take j27) (.inl rfl) (by omega) hz (by rw [List.length_take]; omega)) ⟨by decide_cbv, ?_⟩
      conv => cbv
      have e : (min (max sy keep) (l.length : Int)).toNat = j27 := by omega
      rw [e] at hR
      subst hR
      exact back_tell (wk_dl (hcr.symm.trans hz) (by rw [← hnr, List.length_take]; omega))
    · conv => cbv
      refine call_p hC (by kernel_rfl) (rvalid_v hcl hnl hv) ⟨by decide_cbv, ?_⟩
      conv => cbv
      obtain ⟨z34, hz34⟩ : ∃ z : Int, z = ((nl : Nat) : Int) := ⟨_, rfl⟩
      have ez34 : (p.zi nl) = z34 := by rw [hz34]; exact p_zi hp
      simp only [ez34]
      conv => cbv
      obtain ⟨z35, hz35⟩ : ∃ z : Int, z = min keep z34 := ⟨_, rfl⟩
      have ez35 : (p.mn keep z34) = z35 := by rw [hz35]; exact p_mn hp
      simp only [ez35]
      conv => cbv
      have e37 : (p.cmp .lss z35 sy) = false := by rw [p_cmp_lss hp]; exact decide_eq_false (by omega)
      simp only [e37]; clear e37
      conv => cbv
      obtain ⟨j38, hj38, lj38, ej38⟩ := p_ixleE (i := z35) (n := nl) hp (by omega) (by omega)
      simp only [ej38]
      conv => cbv
      have ez39 : (p.nm 0 1) = 0 := by rw [hp]; rfl
      simp only [ez39]; clear ez39
      conv => cbv
      have ez40 : (p.ns j38 0) = j38 := by rw [p_ns hp]; omega
      simp only [ez40]; clear ez40
      conv => cbv
      have ez41 : (p.nm j38 1) = j38 := by rw [p_nm hp]; omega
      simp only [ez41]; clear ez41
      conv => cbv
      obtain ⟨z42, hz42⟩ : ∃ z : List DV, z = ((cl).drop 0).take j38 := ⟨_, rfl⟩
      have ez42 : (p.cut cl 0 j38) = z42 := by rw [hz42]; exact p_cutE hp
      simp only [ez42]
      have lz42 : z42.length = min j38 ((cl).length - 0) := by rw [hz42]; simp only [List.length_take, List.length_drop, List.length_cons, List.length_nil] <;> omega
      conv => cbv
      have hz : bytesD (l.take j38) = z42 := bytes_take hcl hz42
      refine call_p hC (by kernel_rfl) (copied_t (a := l.take j38) (.inl rfl) (by omega) hz (by rw [List.length_take]; omega)) ⟨by decide_cbv, ?_⟩
      conv => cbv
      have e : (min (max sy keep) (l.length : Int)).toNat = j38 := by omega
      rw [e] at hR
      subst hR
      exact back_tell (wk_dl (hcr.symm.trans hz) (by rw [← hnr, List.length_take]; omega))
end Go.Proofs.Ytmkbnmjhkghdjaa
