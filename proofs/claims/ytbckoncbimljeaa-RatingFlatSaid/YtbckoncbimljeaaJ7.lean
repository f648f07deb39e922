/- Chapter 37, plain: the laws of growing and of flat rates. -/
import Derived.Test.YtbckoncbimljeaaJ6
set_option linter.unusedVariables false
set_option linter.unusedSimpArgs false
set_option maxRecDepth 100000
namespace Go.Proofs.Ytbckoncbimljeaa
open Go.RowKit

theorem se_0 {a n : Int} (ha : 0 ≤ a ∧ a ≤ 281474866710656 + 100000000) (hn : 0 ≤ n ∧ 1000 * n ≤ 281474976710656 - a) : SE a (a + 1000 * n) = n := by
  unfold SE; rw [if_pos (by omega)]; omega
theorem se_1 {a n : Int} (ha : 0 ≤ a ∧ a ≤ 281474966710656) (hn : 0 ≤ n ∧ n ≤ 5000) : SE a (a + 1000 * n + 1) = n + 1 := by
  unfold SE; rw [if_pos (by omega)]; omega
theorem se_2 {a n : Int} (ha : 0 ≤ a ∧ a ≤ 281474966710656) (hn : 0 ≤ n ∧ n ≤ 5000) : SE a (a + 1000 * n + 1000) = n + 1 := by
  unfold SE; rw [if_pos (by omega)]; omega
theorem div_at {st q x : Int} (h : 0 < st) (hx : 0 ≤ x ∧ x < st) : (st * q + x) / st = q := by
  rw [Int.add_comm, Int.add_mul_ediv_left _ _ (by omega), Int.ediv_eq_zero_of_lt hx.1 hx.2]; omega
/-- A second more: a piece more, where one begins. -/
theorem pn_succ {f fi st n : Int} (hfi : 1 ≤ fi) (hst : 1 ≤ st) : PN f fi st (n + 1) = if n = f then 1 else if 0 ≤ n - f - fi ∧ (n - f - fi) % st = 0 then PN f fi st n + 1 else PN f fi st n := by
  unfold PN
  by_cases h1 : n = f
  · rw [if_pos h1, if_neg (by omega), if_pos (by omega)]
  rw [if_neg h1]
  by_cases h2 : n < f
  · rw [if_pos (show n + 1 ≤ f by omega), if_neg (show ¬ (0 ≤ n - f - fi ∧ (n - f - fi) % st = 0) by omega), if_pos (show n ≤ f by omega)]
  rw [if_neg (show ¬ n + 1 ≤ f by omega), if_neg (show ¬ n ≤ f by omega)]
  by_cases h3 : n - f - fi < 0
  · rw [if_neg (show ¬ (0 ≤ n - f - fi ∧ (n - f - fi) % st = 0) by omega), if_pos (show n + 1 - f - fi ≤ 0 by omega), if_pos (show n - f - fi ≤ 0 by omega)]
  have hs : 0 < st := by omega
  obtain ⟨p, hp⟩ : ∃ p, p = n - f - fi := ⟨_, rfl⟩
  rw [← hp]
  have e1 := Int.mul_ediv_add_emod p st
  have e2 := Int.emod_nonneg p (show st ≠ 0 by omega)
  have e3 := Int.emod_lt_of_pos p hs
  generalize p / st = q at e1
  generalize hr : p % st = r at *
  rw [if_neg (show ¬ n + 1 - f - fi ≤ 0 by omega)]
  have k1 : (n + 1 - f - fi + st - 1) / st = q + 1 := by
    rw [show n + 1 - f - fi + st - 1 = st * (q + 1) + r by rw [Int.mul_add]; omega]
    exact div_at hs ⟨e2, e3⟩
  rw [k1]
  by_cases h4 : r = 0
  · rw [if_pos ⟨by omega, h4⟩]
    by_cases h5 : p ≤ 0
    · rw [if_pos h5]
      have : st * q = 0 := by omega
      rcases Int.mul_eq_zero.1 this with k | k <;> omega
    · rw [if_neg h5]
      have k2 : (p + st - 1) / st = q := by
        rw [show p + st - 1 = st * q + (st - 1) by omega]
        exact div_at hs ⟨by omega, by omega⟩
      rw [k2]; omega
  · rw [if_neg (fun k => h4 k.2)]
    by_cases h5 : p ≤ 0
    · have k0 : p = 0 := by omega
      rw [k0] at hr
      rw [Int.zero_emod] at hr
      omega
    · rw [if_neg h5]
      have k2 : (p + st - 1) / st = q + 1 := by
        rw [show p + st - 1 = st * (q + 1) + (r - 1) by rw [Int.mul_add]; omega]
        exact div_at hs ⟨by omega, by omega⟩
      rw [k2]
/-- The piece that begins with a second. -/
theorem pn_bg {f fi st n : Int} (hfi : 1 ≤ fi) (hst : 1 ≤ st) (h1 : ¬ n = f) (h : 0 ≤ n - f - fi ∧ (n - f - fi) % st = 0) : 1 ≤ PN f fi st n ∧ BG f fi st (PN f fi st n).toNat = n := by
  obtain ⟨h2, h3⟩ := h
  have hs : 0 < st := by omega
  obtain ⟨p, hp⟩ : ∃ p, p = n - f - fi := ⟨_, rfl⟩
  rw [← hp] at h2 h3
  have e1 := Int.mul_ediv_add_emod p st
  generalize hq : p / st = q at e1
  have hq0 : 0 ≤ q := by rw [← hq]; exact Int.ediv_nonneg h2 (by omega)
  have e : PN f fi st n = 1 + q := by
    unfold PN
    rw [if_neg (show ¬ n ≤ f by omega), ← hp]
    by_cases h5 : p ≤ 0
    · rw [if_pos h5]
      have : st * q = 0 := by omega
      rcases Int.mul_eq_zero.1 this with k | k <;> omega
    · rw [if_neg h5]
      have k2 : (p + st - 1) / st = q := by
        rw [show p + st - 1 = st * q + (st - 1) by omega]
        exact div_at hs ⟨by omega, by omega⟩
      rw [k2]
  refine ⟨by omega, ?_⟩
  unfold BG
  rw [e, if_neg (by omega), show (((1 + q).toNat : Nat) : Int) - 1 = q by omega, Int.mul_comm]
  omega
theorem cv_bd {r : Ra} {f a s : Int} (h : RV r) (hf : 0 ≤ f ∧ f ≤ 3600) (ha : 0 ≤ a ∧ a ≤ 281474976710656) (hs : 0 ≤ s ∧ s ≤ 1000000) : 0 ≤ CV r f a s ∧ CV r f a s ≤ 1000000000 * (s + 1) := by
  have hfi := h.1.2.2.1
  have hst := h.1.2.2.2
  have hn := pn_nn (f := f) (fi := r.2.2.1) (s := s) hst.1
  have hle := pn_le (st := r.2.2.2.1) hst.1 hf.1 hfi.1 hs.1
  unfold CV
  split
  · omega
  · have := cs_bd h.2.2 h.1.2.1 (n := (PN f r.2.2.1 r.2.2.2.1 s).toNat) (mo := MO a f r.2.2.1 r.2.2.2.1) (fun k hk => by have := mo_bd ha hf hfi hst (k := k) (by omega); omega)
    omega
/-- What the piece costs that begins with a second. -/
noncomputable def mr (r : Ra) (f a n : Int) : Int :=
  if n = f then r.2.1 + (r.2.2.2.2.getD (px r.2.2.2.2 (a + 1000 * n)).toNat p0).2.1
  else if 0 ≤ n - f - r.2.2.1 ∧ (n - f - r.2.2.1) % r.2.2.2.1 = 0 then (r.2.2.2.2.getD (px r.2.2.2.2 (a + 1000 * n)).toNat p0).2.2 else 0
theorem cv_succ {r : Ra} {f a n : Int} (h : RV r) : CV r f a (n + 1) = CV r f a n + mr r f a n := by
  have hfi := h.1.2.2.1
  have hst := h.1.2.2.2
  unfold CV mr
  rw [pn_succ hfi.1 hst.1]
  by_cases h1 : n = f
  · subst h1
    have h0 : PN n r.2.2.1 r.2.2.2.1 n = 0 := by unfold PN; rw [if_pos (Int.le_refl _)]
    rw [if_pos rfl, if_pos rfl, if_neg (by decide), h0, if_pos rfl]
    show r.2.1 + prc r.2.2.2.2 (MO a n r.2.2.1 r.2.2.2.1 0) 0 = _
    have : MO a n r.2.2.1 r.2.2.2.1 0 = a + 1000 * n := rfl
    rw [this]
    unfold prc
    rw [if_pos rfl]; omega
  · rw [if_neg h1, if_neg h1]
    by_cases h2 : 0 ≤ n - f - r.2.2.1 ∧ (n - f - r.2.2.1) % r.2.2.2.1 = 0
    · obtain ⟨k1, k2⟩ := pn_bg hfi.1 hst.1 h1 h2
      rw [if_pos h2, if_pos h2, if_neg (by omega), if_neg (by omega), show (PN f r.2.2.1 r.2.2.2.1 n + 1).toNat = (PN f r.2.2.1 r.2.2.2.1 n).toNat + 1 by omega, CU]
      unfold MO prc
      rw [k2, if_neg (by omega)]
    · rw [if_neg h2, if_neg h2]; omega
theorem join_ex {γ β : Type} {P : γ → Prop} {x : Option (γ ⊕ β)} {k : γ → Option β} {t : Option β} (h : ∃ g, x = some (.inl g) ∧ P g) (hk : ∀ g, P g → k g = t) : joinO x k = t := by
  obtain ⟨g, e, p⟩ := h
  rw [e]; exact hk g p
theorem grows_j (a1 : List Ra) (a2 : Int) (a3 : List UInt8) (a4 a5 : Int) (h5 : 0 ≤ a5 ∧ a5 ≤ 65535) : dialtonelaw37_RatingGrows ((a1, a2), (a3, (a4, a5))) = some true := by
  have e0 : Int.tmod (Go.IntKind.wrap .i64 a5) (5000 : Int) = a5 % 5000 := by rw [wrap_i64' (by omega), Int.tmod_eq_emod_of_nonneg (by omega)]
  obtain ⟨n, hn⟩ : ∃ n, n = a5 % 5000 := ⟨_, rfl⟩
  have hn1 : 0 ≤ n ∧ n < 5000 := by omega
  unfold dialtonelaw37_RatingGrows
  show bindO (some _) _ = _
  rw [e0, ← hn]
  obtain ⟨b, hb⟩ := few_j a1 a2
  cases b with
  | false => simp only [↓bindO_some, ↓bindO_none, ↓joinO_inl, ↓joinO_inr, ↓joinO_none, ↓outO_some, ↓outO_none, ↓cond_true, ↓cond_false, ↓cond_and, ↓cond_or, ↓cond_not, ↓cond_ite, ↓if_pos, ↓if_neg, ↓if_true, ↓if_false, List.take_length, Nat.le_refl, Bool.not_true, Bool.not_false, hb, lives_b]
  | true =>
  by_cases hv : TV a1 a2
  · have hR := validP_t hv
    by_cases hA : 0 ≤ a4 ∧ a4 ≤ 281474966710656
    · have hA1 : ¬ a4 < 0 := by omega
      have hA2 : ¬ a4 > 281474966710656 := by omega
      have hsp0 : Spn a4 (a4 + 1000 * n) := by omega
      have hsp1 : Spn a4 (a4 + 1000 * n + 1) := by omega
      have hsp2 : Spn a4 (a4 + 1000 * n + 1000) := by omega
      have s0 : SE a4 (a4 + 1000 * n) = n := se_0 (by omega) (by omega)
      have s1 : SE a4 (a4 + 1000 * n + 1) = n + 1 := se_1 (by omega) (by omega)
      have s2 : SE a4 (a4 + 1000 * n + 1000) = n + 1 := se_2 (by omega) (by omega)
      have w1 : IntKind.wrap .i64 (1000 * n) = 1000 * n := wrap_i64' (by omega)
      have w2 : IntKind.wrap .i64 (a4 + 1000 * n) = a4 + 1000 * n := wrap_i64' (by omega)
      have w3 : IntKind.wrap .i64 (a4 + 1000 * n + 1) = a4 + 1000 * n + 1 := wrap_i64' (by omega)
      have w4 : IntKind.wrap .i64 (a4 + 1000 * n + 1000) = a4 + 1000 * n + 1000 := wrap_i64' (by omega)
      simp only [↓bindO_some, ↓bindO_none, ↓joinO_inl, ↓joinO_inr, ↓joinO_none, ↓outO_some, ↓outO_none, ↓cond_true, ↓cond_false, ↓cond_and, ↓cond_or, ↓cond_not, ↓cond_ite, ↓if_pos, ↓if_neg, ↓if_true, ↓if_false, List.take_length, Nat.le_refl, Bool.not_true, Bool.not_false, hb, valid_same, hR, hA1, hA2, decide_false, w1, w2, w3, w4]
      obtain ⟨r, e1, e2, k1, _⟩ := find_same a1 a2 a3
      rcases k1 hv with ⟨rfl, _⟩ | ⟨i, hi, rfl, _⟩
      · have c0 := costP_no hv hsp0 (by omega) e1
        have c1 := costP_no hv hsp1 (by omega) e1
        have c2 := costP_no hv hsp2 (by omega) e1
        simp only [↓bindO_some, ↓bindO_none, ↓joinO_inl, ↓joinO_inr, ↓joinO_none, ↓outO_some, ↓outO_none, ↓cond_true, ↓cond_false, ↓cond_and, ↓cond_or, ↓cond_not, ↓cond_ite, ↓if_pos, ↓if_neg, ↓if_true, ↓if_false, List.take_length, Nat.le_refl, Bool.not_true, Bool.not_false, e2, c0, c1, c2, decide_true, lives_b]
      · have c0 := costP_v hv hsp0 (by omega) hi e1
        have c1 := costP_v hv hsp1 (by omega) hi e1
        have c2 := costP_v hv hsp2 (by omega) hi e1
        have hrv := (hv.2 i hi).1
        have hf := hv.1.2
        rw [s0] at c0
        rw [s1] at c1
        rw [s2] at c2
        have hrg : (0 : Int) ≤ (i : Int) ∧ (i : Int) < ((a1.length : Nat) : Int) := by omega
        obtain ⟨x, hx, hxb⟩ := get_at r0 hi
        rw [hx] at c0 c1 c2 hrv
        have hcs := cv_succ (f := a2) (a := a4) (n := n) hrv
        have hcb := cv_bd (a := a4) hrv hf (by omega) (s := n) (by omega)
        have hcb1 := cv_bd (a := a4) hrv hf (by omega) (s := n + 1) (by omega)
        obtain ⟨j, hj, ej⟩ := (px_j hrv.2.2 (a := a4 + 1000 * n) (by omega)).2.pos hrv.2.2
        obtain ⟨y, hy, hyb⟩ := get_at p0 hj
        have hpk := hrv.2.2.2.1 j hj
        rw [hy] at hpk
        have hjr : (0 : Int) ≤ (j : Int) ∧ (j : Int) < ((x.2.2.2.2.length : Nat) : Int) := by omega
        have hfi := hrv.1.2.2.1
        have hst := hrv.1.2.2.2
        have hrc := hrv.1.2.1
        have hst0 : x.2.2.2.1 ≠ 0 := by omega
        have w5 : IntKind.wrap .i64 (n - a2) = n - a2 := wrap_i64' (by omega)
        have w6 : IntKind.wrap .i64 (n - a2 - x.2.2.1) = n - a2 - x.2.2.1 := wrap_i64' (by omega)
        have w7 : IntKind.wrap .i64 (x.2.1 + y.2.1) = x.2.1 + y.2.1 := wrap_i64' (by have := hpk.2.1; omega)
        have w8 : IntKind.wrap .i64 (CV x a2 a4 n + mr x a2 a4 n) = CV x a2 a4 (n + 1) := by rw [← hcs]; exact wrap_i64' (by omega)
        have hpr : 0 ≤ a4 + 1000 * n ∧ a4 + 1000 * n ≤ 562949953421312 := by omega
        have hm : mr x a2 a4 n = if n = a2 then x.2.1 + y.2.1 else if 0 ≤ n - a2 - x.2.2.1 ∧ (n - a2 - x.2.2.1) % x.2.2.2.1 = 0 then y.2.2 else 0 := by
          unfold mr; rw [ej, Int.toNat_natCast, hy]
        simp only [↓bindO_some, ↓bindO_none, ↓joinO_inl, ↓joinO_inr, ↓joinO_none, ↓outO_some, ↓outO_none, ↓cond_true, ↓cond_false, ↓cond_and, ↓cond_or, ↓cond_not, ↓cond_ite, ↓if_pos, ↓if_neg, ↓if_true, ↓if_false, List.take_length, Nat.le_refl, Bool.not_true, Bool.not_false, e2, c0, c1, c2, decide_true, hrg, and_self, ↓hxb, w5, w6, priceR_b hrv hpr, ej]
        refine join_ex (P := fun v => v = mr x a2 a4 n) ?_ ?_
        · by_cases g1 : n = a2
          · rw [if_pos g1] at hm
            refine ⟨_, ?_, hm.symm⟩
            simp only [↓bindO_some, ↓bindO_none, ↓joinO_inl, ↓joinO_inr, ↓joinO_none, ↓outO_some, ↓outO_none, ↓cond_true, ↓cond_false, ↓cond_and, ↓cond_or, ↓cond_not, ↓cond_ite, ↓if_pos, ↓if_neg, ↓if_true, ↓if_false, List.take_length, Nat.le_refl, Bool.not_true, Bool.not_false, g1, decide_true, hjr, and_self, ↓hyb, w7]
          · rw [if_neg g1] at hm
            by_cases g2 : n - a2 - x.2.2.1 ≥ 0
            · have et : Int.tmod (n - a2 - x.2.2.1) x.2.2.2.1 = (n - a2 - x.2.2.1) % x.2.2.2.1 := Int.tmod_eq_emod_of_nonneg g2
              by_cases g3 : (n - a2 - x.2.2.1) % x.2.2.2.1 = 0
              · rw [if_pos ⟨g2, g3⟩] at hm
                refine ⟨_, ?_, hm.symm⟩
                simp only [↓bindO_some, ↓bindO_none, ↓joinO_inl, ↓joinO_inr, ↓joinO_none, ↓outO_some, ↓outO_none, ↓cond_true, ↓cond_false, ↓cond_and, ↓cond_or, ↓cond_not, ↓cond_ite, ↓if_pos, ↓if_neg, ↓if_true, ↓if_false, List.take_length, Nat.le_refl, Bool.not_true, Bool.not_false, g1, g2, g3, et, hst0, ne_eq, not_false_iff, decide_true, decide_false, hjr, and_self, ↓hyb]
              · rw [if_neg (fun k => g3 k.2)] at hm
                refine ⟨_, ?_, hm.symm⟩
                simp only [↓bindO_some, ↓bindO_none, ↓joinO_inl, ↓joinO_inr, ↓joinO_none, ↓outO_some, ↓outO_none, ↓cond_true, ↓cond_false, ↓cond_and, ↓cond_or, ↓cond_not, ↓cond_ite, ↓if_pos, ↓if_neg, ↓if_true, ↓if_false, List.take_length, Nat.le_refl, Bool.not_true, Bool.not_false, g1, g2, g3, et, hst0, ne_eq, not_false_iff, decide_true, decide_false]
            · rw [if_neg (fun k => g2 k.1)] at hm
              refine ⟨_, ?_, hm.symm⟩
              simp only [↓bindO_some, ↓bindO_none, ↓joinO_inl, ↓joinO_inr, ↓joinO_none, ↓outO_some, ↓outO_none, ↓cond_true, ↓cond_false, ↓cond_and, ↓cond_or, ↓cond_not, ↓cond_ite, ↓if_pos, ↓if_neg, ↓if_true, ↓if_false, List.take_length, Nat.le_refl, Bool.not_true, Bool.not_false, g1, g2, decide_true, decide_false]
        · rintro v rfl
          simp only [↓bindO_some, ↓bindO_none, ↓joinO_inl, ↓joinO_inr, ↓joinO_none, ↓outO_some, ↓outO_none, ↓cond_true, ↓cond_false, ↓cond_and, ↓cond_or, ↓cond_not, ↓cond_ite, ↓if_pos, ↓if_neg, ↓if_true, ↓if_false, List.take_length, Nat.le_refl, Bool.not_true, Bool.not_false, w8, decide_true, lives_b]
    · rcases Int.lt_or_le a4 0 with k | k
      · simp only [↓bindO_some, ↓bindO_none, ↓joinO_inl, ↓joinO_inr, ↓joinO_none, ↓outO_some, ↓outO_none, ↓cond_true, ↓cond_false, ↓cond_and, ↓cond_or, ↓cond_not, ↓cond_ite, ↓if_pos, ↓if_neg, ↓if_true, ↓if_false, List.take_length, Nat.le_refl, Bool.not_true, Bool.not_false, hb, valid_same, hR, k, decide_true, lives_b]
      · have k1 : ¬ a4 < 0 := by omega
        have k2 : a4 > 281474966710656 := by omega
        simp only [↓bindO_some, ↓bindO_none, ↓joinO_inl, ↓joinO_inr, ↓joinO_none, ↓outO_some, ↓outO_none, ↓cond_true, ↓cond_false, ↓cond_and, ↓cond_or, ↓cond_not, ↓cond_ite, ↓if_pos, ↓if_neg, ↓if_true, ↓if_false, List.take_length, Nat.le_refl, Bool.not_true, Bool.not_false, hb, valid_same, hR, k1, k2, decide_true, decide_false, lives_b]
  · simp only [↓bindO_some, ↓bindO_none, ↓joinO_inl, ↓joinO_inr, ↓joinO_none, ↓outO_some, ↓outO_none, ↓cond_true, ↓cond_false, ↓cond_and, ↓cond_or, ↓cond_not, ↓cond_ite, ↓if_pos, ↓if_neg, ↓if_true, ↓if_false, List.take_length, Nat.le_refl, Bool.not_true, Bool.not_false, hb, valid_same, validP_f hv, lives_b]
theorem cs_one {l : List Pr1} {rc : Int} {mo : Nat → Int} (hl : l.length = 1) (h : RVl l) : ∀ {n : Nat}, (∀ k, k < n + 1 → 0 ≤ mo k ∧ mo k ≤ 4000000000000000000) → CU l rc mo (n + 1) = rc + (l.getD 0 p0).2.1 + (n : Int) * (l.getD 0 p0).2.2
  | 0, hm => by
    obtain ⟨i, hi, e⟩ := (px_j h (hm 0 (by omega))).2.pos h
    obtain rfl : i = 0 := by omega
    show rc + prc l (mo 0) 0 = _
    unfold prc
    rw [if_pos rfl, e]
    show rc + (l.getD 0 p0).2.1 = rc + (l.getD 0 p0).2.1 + (0 : Int) * _
    rw [Int.zero_mul]; omega
  | n + 1, hm => by
    obtain ⟨i, hi, e⟩ := (px_j h (hm (n + 1) (by omega))).2.pos h
    obtain rfl : i = 0 := by omega
    show CU l rc mo (n + 1) + prc l (mo (n + 1)) (n + 1) = _
    rw [cs_one hl h (fun k hk => hm k (by omega))]
    unfold prc
    rw [if_neg (by omega), e, show ((n + 1 : Nat) : Int) = (n : Int) + 1 from rfl, Int.add_mul, Int.one_mul]
    show _ + (l.getD 0 p0).2.2 = _
    omega
theorem flat_j (r : Ra) (a6 a7 a8 : Int) (h6 : 0 ≤ a6 ∧ a6 ≤ 65535) (h8 : 0 ≤ a8 ∧ a8 ≤ 4294967295) : dialtonelaw37_RatingFlat ((r.1, (r.2.1, (r.2.2.1, (r.2.2.2.1, r.2.2.2.2)))), (a6, (a7, a8))) = some true := by
  have e0 : Int.tmod (Go.IntKind.wrap .i64 a6) (3601 : Int) = a6 % 3601 := by rw [wrap_i64' (by omega), Int.tmod_eq_emod_of_nonneg (by omega)]
  have e1 : Int.tmod (Go.IntKind.wrap .i64 a8) (100001 : Int) = a8 % 100001 := by rw [wrap_i64' (by omega), Int.tmod_eq_emod_of_nonneg (by omega)]
  obtain ⟨f, hf'⟩ : ∃ n, n = a6 % 3601 := ⟨_, rfl⟩
  obtain ⟨n, hn⟩ : ∃ n, n = a8 % 100001 := ⟨_, rfl⟩
  have hn1 : 0 ≤ n ∧ n ≤ 100000 := by omega
  have hf : 0 ≤ f ∧ f ≤ 3600 := by omega
  unfold dialtonelaw37_RatingFlat
  show joinO _ _ = _
  rw [e0, e1, ← hn, ← hf']
  refine join_ex (P := fun g : Ra => RV g → g.2.2.2.2.length = 1) ?_ ?_
  · by_cases k1 : r.2.2.2.2.length > 1
    · by_cases k2 : r.2.2.2.2.length < 40
      · refine ⟨(r.1, (r.2.1, (r.2.2.1, (r.2.2.2.1, r.2.2.2.2.drop (r.2.2.2.2.length - 1))))), ?_, fun _ => ?_⟩
        · have hw : IntKind.wrap .i64 (((r.2.2.2.2.length : Nat) : Int) - 1) = ((r.2.2.2.2.length - 1 : Nat) : Int) := by rw [wrap_i64' (by omega)]; omega
          simp (disch := omega) only [↓bindO_some, ↓bindO_none, ↓joinO_inl, ↓joinO_inr, ↓joinO_none, ↓outO_some, ↓outO_none, ↓cond_true, ↓cond_false, ↓cond_and, ↓cond_or, ↓cond_not, ↓cond_ite, ↓if_pos, ↓if_neg, ↓if_true, ↓if_false, List.take_length, Nat.le_refl, Bool.not_true, Bool.not_false, if_pos, hw, Int.toNat_natCast]
        · show (r.2.2.2.2.drop (r.2.2.2.2.length - 1)).length = 1
          rw [List.length_drop]; omega
      · refine ⟨(r.1, (r.2.1, (r.2.2.1, (r.2.2.2.1, r.2.2.2.2)))), ?_, fun k => ?_⟩
        · simp (disch := omega) only [↓bindO_some, ↓bindO_none, ↓joinO_inl, ↓joinO_inr, ↓joinO_none, ↓outO_some, ↓outO_none, ↓cond_true, ↓cond_false, ↓cond_and, ↓cond_or, ↓cond_not, ↓cond_ite, ↓if_pos, ↓if_neg, ↓if_true, ↓if_false, List.take_length, Nat.le_refl, Bool.not_true, Bool.not_false, if_pos, if_neg]
        · have := k.2.2.1.2
          have : r.2.2.2.2.length ≤ 20 := this
          omega
    · refine ⟨(r.1, (r.2.1, (r.2.2.1, (r.2.2.2.1, r.2.2.2.2)))), ?_, fun k => ?_⟩
      · simp (disch := omega) only [↓bindO_some, ↓bindO_none, ↓joinO_inl, ↓joinO_inr, ↓joinO_none, ↓outO_some, ↓outO_none, ↓cond_true, ↓cond_false, ↓cond_and, ↓cond_or, ↓cond_not, ↓cond_ite, ↓if_pos, ↓if_neg, ↓if_true, ↓if_false, List.take_length, Nat.le_refl, Bool.not_true, Bool.not_false, if_neg]
      · have := k.2.2.1.1
        have : 1 ≤ r.2.2.2.2.length := this
        show r.2.2.2.2.length = 1
        omega
  rintro ⟨g1, g2, g3, g4, g5⟩ hg
  obtain ⟨b, hb⟩ := few_j [(g1, (g2, (g3, (g4, g5))))] f
  cases b with
  | false => simp only [↓bindO_some, ↓bindO_none, ↓joinO_inl, ↓joinO_inr, ↓joinO_none, ↓outO_some, ↓outO_none, ↓cond_true, ↓cond_false, ↓cond_and, ↓cond_or, ↓cond_not, ↓cond_ite, ↓if_pos, ↓if_neg, ↓if_true, ↓if_false, List.take_length, Nat.le_refl, Bool.not_true, Bool.not_false, hb, lives_b]
  | true =>
  by_cases hv : TV [(g1, (g2, (g3, (g4, g5))))] f
  · have hR := validP_t hv
    have hrv : RV (g1, (g2, (g3, (g4, g5)))) := (hv.2 0 (Nat.zero_lt_succ _)).1
    have hl1 : g5.length = 1 := hg hrv
    by_cases hA : 0 ≤ a7 ∧ a7 ≤ 281474866710656
    · have hA1 : ¬ a7 < 0 := by omega
      have hA2 : ¬ a7 > 281474866710656 := by omega
      have hsp0 : Spn a7 (a7 + 1000 * n) := by omega
      have s0 : SE a7 (a7 + 1000 * n) = n := se_0 (by omega) (by omega)
      have w1 : IntKind.wrap .i64 (1000 * n) = 1000 * n := wrap_i64' (by omega)
      have w2 : IntKind.wrap .i64 (a7 + 1000 * n) = a7 + 1000 * n := wrap_i64' (by omega)
      simp only [↓bindO_some, ↓bindO_none, ↓joinO_inl, ↓joinO_inr, ↓joinO_none, ↓outO_some, ↓outO_none, ↓cond_true, ↓cond_false, ↓cond_and, ↓cond_or, ↓cond_not, ↓cond_ite, ↓if_pos, ↓if_neg, ↓if_true, ↓if_false, List.take_length, Nat.le_refl, Bool.not_true, Bool.not_false, hb, valid_same, hR, hA1, hA2, decide_false, w1, w2]
      have hF : rating_Find (([(g1, (g2, (g3, (g4, g5))))], f), g1) = some (((0 : Nat) : Int), true) := by
        obtain ⟨r, e1, _, h, _⟩ := find_same [(g1, (g2, (g3, (g4, g5))))] f g1
        have k : FX [(g1, (g2, (g3, (g4, g5))))] g1 (((0 : Nat) : Int), true) := .inr ⟨0, Nat.zero_lt_succ _, rfl, ⟨Nat.le_refl _, List.take_length⟩, fun j hj _ => by
          obtain rfl : j = 0 := by have : j < 1 := hj; omega
          exact Nat.le_refl _⟩
        rw [e1, (h hv).uniq hv k]
      have c0 := costP_v hv hsp0 (by omega) (i := 0) (Nat.zero_lt_succ _) hF
      rw [s0] at c0
      have hst : 1 ≤ g4 ∧ g4 ≤ 3600 := hrv.1.2.2.2
      have hfi : 1 ≤ g3 ∧ g3 ≤ 3600 := hrv.1.2.2.1
      have hrc : 0 ≤ g2 ∧ g2 ≤ 1000000000 := hrv.1.2.1
      obtain ⟨y, hy, hyb⟩ := get_at p0 (l := g5) (i := 0) (by omega)
      have hpk := hrv.2.2.2.1 0 (show 0 < g5.length by omega)
      have hpk : Pok (g5.getD 0 p0) := hpk
      rw [hy] at hpk
      have hst0 : g4 ≠ 0 := by omega
      have hrg : (0 : Int) ≤ 0 ∧ (0 : Int) < ((g5.length : Nat) : Int) := by omega
      have hyb' : ∀ {β : Type} (f : Pr1 → Option β), bindO g5[0]? f = f y := fun f => hyb f
      rw [c0]
      simp only [↓bindO_some, ↓bindO_none, ↓joinO_inl, ↓joinO_inr, ↓joinO_none, ↓outO_some, ↓outO_none, ↓cond_true, ↓cond_false, ↓cond_and, ↓cond_or, ↓cond_not, ↓cond_ite, ↓if_pos, ↓if_neg, ↓if_true, ↓if_false, List.take_length, Nat.le_refl, Bool.not_true, Bool.not_false]
      refine join_ex (P := fun v => v = CV (g1, (g2, (g3, (g4, g5)))) f a7 n) ?_ ?_
      · by_cases q1 : n > f
        · have hPN : PN f g3 g4 n = if n - f - g3 ≤ 0 then 1 else 1 + (n - f - g3 + g4 - 1) / g4 := by unfold PN; rw [if_neg (by omega)]
          have w3 : IntKind.wrap .i64 (g2 + y.2.1) = g2 + y.2.1 := wrap_i64' (by have := hpk.2.1; omega)
          have w4 : IntKind.wrap .i64 (n - f) = n - f := wrap_i64' (by omega)
          have w5 : IntKind.wrap .i64 (n - f - g3) = n - f - g3 := wrap_i64' (by omega)
          have hmo : ∀ k : Nat, k ≤ 1000001 → 0 ≤ MO a7 f g3 g4 k ∧ MO a7 f g3 g4 k ≤ 4000000000000000000 := fun k hk => by have := mo_bd (a := a7) (by omega) hf hfi hst hk; omega
          by_cases q2 : n - f - g3 > 0
          · rw [if_neg (by omega)] at hPN
            have d0 := Int.ediv_nonneg (a := n - f - g3 + g4 - 1) (b := g4) (by omega) (by omega)
            have d1 := Int.ediv_le_self (a := n - f - g3 + g4 - 1) g4 (by omega)
            have w6 : IntKind.wrap .i64 (n - f - g3 + g4) = n - f - g3 + g4 := wrap_i64' (by omega)
            have w7 : IntKind.wrap .i64 (n - f - g3 + g4 - 1) = n - f - g3 + g4 - 1 := wrap_i64' (by omega)
            have td : Int.tdiv (n - f - g3 + g4 - 1) g4 = (n - f - g3 + g4 - 1) / g4 := Int.tdiv_eq_ediv_of_nonneg (by omega)
            obtain ⟨q, hq⟩ : ∃ q : Nat, (n - f - g3 + g4 - 1) / g4 = (q : Int) := ⟨((n - f - g3 + g4 - 1) / g4).toNat, by omega⟩
            have w8 : IntKind.wrap .i64 (q : Int) = q := wrap_i64' (by omega)
            have hm1 : 0 ≤ y.2.2 * (q : Int) := Int.mul_nonneg hpk.2.2.1 (by omega)
            have hm2 : y.2.2 * (q : Int) ≤ 1000000000 * 110000 := Int.mul_le_mul hpk.2.2.2 (by omega) (by omega) (by omega)
            have w9 : IntKind.wrap .i64 (y.2.2 * (q : Int)) = y.2.2 * (q : Int) := wrap_i64' (by omega)
            have w10 : IntKind.wrap .i64 (g2 + y.2.1 + y.2.2 * (q : Int)) = g2 + y.2.1 + y.2.2 * (q : Int) := wrap_i64' (by have := hpk.2.1; omega)
            refine ⟨g2 + y.2.1 + y.2.2 * (q : Int), ?_, ?_⟩
            · simp only [↓bindO_some, ↓bindO_none, ↓joinO_inl, ↓joinO_inr, ↓joinO_none, ↓outO_some, ↓outO_none, ↓cond_true, ↓cond_false, ↓cond_and, ↓cond_or, ↓cond_not, ↓cond_ite, ↓if_pos, ↓if_neg, ↓if_true, ↓if_false, List.take_length, Nat.le_refl, Bool.not_true, Bool.not_false, q1, q2, decide_true, hrg, and_self, ↓hyb', hst0, ne_eq, not_false_iff, w3, w4, w5, w6, w7, td, hq, w8, w9, w10]
            · unfold CV
              show _ = if PN f g3 g4 n = 0 then 0 else CU g5 g2 (MO a7 f g3 g4) (PN f g3 g4 n).toNat
              rw [hPN, hq, if_neg (by omega), show (1 + (q : Int)).toNat = q + 1 by omega, cs_one hl1 hrv.2.2 (fun k hk => hmo k (by omega)), hy, Int.mul_comm]
          · rw [if_pos (by omega)] at hPN
            refine ⟨g2 + y.2.1, ?_, ?_⟩
            · simp only [↓bindO_some, ↓bindO_none, ↓joinO_inl, ↓joinO_inr, ↓joinO_none, ↓outO_some, ↓outO_none, ↓cond_true, ↓cond_false, ↓cond_and, ↓cond_or, ↓cond_not, ↓cond_ite, ↓if_pos, ↓if_neg, ↓if_true, ↓if_false, List.take_length, Nat.le_refl, Bool.not_true, Bool.not_false, q1, q2, decide_true, decide_false, hrg, and_self, ↓hyb', w3, w4, w5]
            · unfold CV
              show _ = if PN f g3 g4 n = 0 then 0 else CU g5 g2 (MO a7 f g3 g4) (PN f g3 g4 n).toNat
              rw [hPN, if_neg (by decide), show (1 : Int).toNat = 0 + 1 from rfl, cs_one hl1 hrv.2.2 (fun k hk => hmo k (by omega)), hy]
              show _ = _ + (0 : Int) * _
              rw [Int.zero_mul]; omega
        · refine ⟨0, ?_, ?_⟩
          · simp only [↓bindO_some, ↓bindO_none, ↓joinO_inl, ↓joinO_inr, ↓joinO_none, ↓outO_some, ↓outO_none, ↓cond_true, ↓cond_false, ↓cond_and, ↓cond_or, ↓cond_not, ↓cond_ite, ↓if_pos, ↓if_neg, ↓if_true, ↓if_false, List.take_length, Nat.le_refl, Bool.not_true, Bool.not_false, q1, decide_false]
          · unfold CV
            show _ = if PN f g3 g4 n = 0 then 0 else CU g5 g2 (MO a7 f g3 g4) (PN f g3 g4 n).toNat
            rw [if_pos (by unfold PN; rw [if_pos (by omega)])]
      · rintro v rfl
        have hself : ((([(g1, (g2, (g3, (g4, g5))))] : List Ra).getD 0 r0)) = (g1, (g2, (g3, (g4, g5)))) := rfl
        simp only [↓bindO_some, ↓bindO_none, ↓joinO_inl, ↓joinO_inr, ↓joinO_none, ↓outO_some, ↓outO_none, ↓cond_true, ↓cond_false, ↓cond_and, ↓cond_or, ↓cond_not, ↓cond_ite, ↓if_pos, ↓if_neg, ↓if_true, ↓if_false, List.take_length, Nat.le_refl, Bool.not_true, Bool.not_false, hself, decide_true, lives_b]
    · rcases Int.lt_or_le a7 0 with k | k
      · simp only [↓bindO_some, ↓bindO_none, ↓joinO_inl, ↓joinO_inr, ↓joinO_none, ↓outO_some, ↓outO_none, ↓cond_true, ↓cond_false, ↓cond_and, ↓cond_or, ↓cond_not, ↓cond_ite, ↓if_pos, ↓if_neg, ↓if_true, ↓if_false, List.take_length, Nat.le_refl, Bool.not_true, Bool.not_false, hb, valid_same, hR, k, decide_true, lives_b]
      · have k1 : ¬ a7 < 0 := by omega
        have k2 : a7 > 281474866710656 := by omega
        simp only [↓bindO_some, ↓bindO_none, ↓joinO_inl, ↓joinO_inr, ↓joinO_none, ↓outO_some, ↓outO_none, ↓cond_true, ↓cond_false, ↓cond_and, ↓cond_or, ↓cond_not, ↓cond_ite, ↓if_pos, ↓if_neg, ↓if_true, ↓if_false, List.take_length, Nat.le_refl, Bool.not_true, Bool.not_false, hb, valid_same, hR, k1, k2, decide_true, decide_false, lives_b]
  · simp only [↓bindO_some, ↓bindO_none, ↓joinO_inl, ↓joinO_inr, ↓joinO_none, ↓outO_some, ↓outO_none, ↓cond_true, ↓cond_false, ↓cond_and, ↓cond_or, ↓cond_not, ↓cond_ite, ↓if_pos, ↓if_neg, ↓if_true, ↓if_false, List.take_length, Nat.le_refl, Bool.not_true, Bool.not_false, hb, valid_same, validP_f hv, lives_b]
theorem grows_main (a : (List Ra × Int) × (List UInt8 × (Int × Int))) (hw : WfIs [(.tmp 0 true [(.dat (.list Uty)), (.dat (.int .i64))]), (.tmp 1 false [(.dat .str)]), (.tmp 2 false [(.dat (.int .i64))]), (.tmp 3 false [(.dat (.int .u16))])] a) : dialtonelaw37_RatingGrows a = some true := by
  obtain ⟨⟨a1, a2⟩, a3, a4, a5⟩ := a
  have h : 0 ≤ a5 ∧ a5 ≤ 65535 := wfU16 hw.2.2.2.1.1
  exact grows_j a1 a2 a3 a4 a5 h
theorem flat_main (a : Ra × (Int × (Int × Int))) (hw : WfIs [(.tmp 0 true [(.dat .str), (.dat (.int .i64)), (.dat (.int .i64)), (.dat (.int .i64)), (.dat (.list (.pair (.pair (.int .u8) (.pair (.int .i64) (.int .i64))) (.pair (.int .i64) (.int .i64)))))]), (.tmp 1 false [(.dat (.int .u16))]), (.tmp 2 false [(.dat (.int .i64))]), (.tmp 3 false [(.dat (.int .u32))])] a) : dialtonelaw37_RatingFlat a = some true := by
  obtain ⟨r, a6, a7, a8⟩ := a
  have h6 : 0 ≤ a6 ∧ a6 ≤ 65535 := wfU16 hw.2.1.1
  have h8 : 0 ≤ a8 ∧ a8 ≤ 4294967295 := wfU32 hw.2.2.2.1.1
  exact flat_j r a6 a7 a8 h6 h8
end Go.Proofs.Ytbckoncbimljeaa
