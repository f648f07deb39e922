/- Chapter 20, plain: JournalCuts. -/
import Derived.Test.YtmkbnmjhkghdjaaJ10
set_option linter.unusedVariables false
set_option linter.unusedSimpArgs false
namespace Go.Proofs.Ytmkbnmjhkghdjaa
open Go.RowKit

theorem recs_wf {l : Recs} (h : WfU (.list (.pair (.int .u8) (.list (.int .u8)))) l) : l.length ≤ 9223372036854775807 ∧ ∀ r ∈ l, (0 ≤ r.1 ∧ r.1 ≤ 255) ∧ Bytes r.2 := ⟨h.1, fun r hr => ⟨wfU8 (h.2 r hr).1, wfBytes (h.2 r hr).2⟩⟩
theorem few_any (l : Recs) (h : WfU (.list (.pair (.int .u8) (.list (.int .u8)))) l) : ∃ l', dialtonelaw20_few l = some l' ∧ Few l' := by
  have hw := recs_wf h
  exact few_ok l hw.1 hw.2
theorem cuts_true (a : Recs × Int) (hw : WfIs [(.tmp 0 false [(.dat (.list (.pair (.int .u8) (.list (.int .u8)))))]), (.tmp 1 false [(.dat (.int .u16))])] a) : dialtonelaw20_JournalCuts a = some true := by
  obtain ⟨l0, cut⟩ := a
  have hl0 : WfU (.list (.pair (.int .u8) (.list (.int .u8)))) l0 := hw.1.1
  have hcut : 0 ≤ cut ∧ cut ≤ 65535 := wfU16 hw.2.1.1
  unfold dialtonelaw20_JournalCuts
  obtain ⟨l, hf, hl⟩ := few_any l0 hl0
  refine bindO_eq hf ?_
  refine bindO_eq (write_ok l hl) ?_
  simp only [bindO_some, bindO_none, joinO_inl, joinO_inr, joinO_none, outO_some, outO_none, cond_ite, List.take_length, Nat.le_refl, if_true, Nat.mul_one, Int.mul_one, cond_true, cond_false, Bool.not_true]
  have hsum := sumL_few hl.2
  have hl20 := hl.1
  have hlen := encAll_length l 0
  rw [hlen, wrap_i64' (n := ((sumL l : Nat) : Int) + 1) (by omega), if_pos (by omega), wrap_i64' (n := cut) (by omega), Int.tmod_eq_emod_of_nonneg hcut.1]
  obtain ⟨c, hc⟩ : ∃ c : Nat, (c : Int) = cut % (((sumL l : Nat) : Int) + 1) := ⟨(cut % (((sumL l : Nat) : Int) + 1)).toNat, by have := Int.emod_nonneg cut (show (((sumL l : Nat) : Int) + 1) ≠ 0 by omega); omega⟩
  have hcl : c ≤ sumL l := by have := Int.emod_lt_of_pos cut (show 0 < (((sumL l : Nat) : Int) + 1) by omega); omega
  rw [← hc]
  obtain ⟨s1, s2⟩ := cnt_spec l c
  have hcnt := cnt_le l c
  have hec := endC_le l c
  refine joinO_eq (a := ((cnt l c : Int), (endC l c : Int))) (loopO_from (fun j => ((j : Int), ((sumL (l.take j) : Nat) : Int))) (cnt l c) rfl ?_ ?_) ?_
  · intro j hj
    have hm := sumL_mono l (show j + 1 ≤ cnt l c by omega)
    simp only
    rw [if_pos (by rw [endsL_length]; omega), if_pos (by rw [endsL_length]; omega), Int.toNat_natCast, endsL_get l (show j < l.length by omega), bindO_some, if_pos (by omega), if_pos (by rw [endsL_length]; omega), bindO_some, wrap_i64' (by omega)]
    rfl
  · simp only
    by_cases he : cnt l c < l.length
    · have := s2 he
      rw [if_pos (by rw [endsL_length]; omega), if_pos (by rw [endsL_length]; omega), Int.toNat_natCast, endsL_get l he, bindO_some, if_neg (by omega), s1]
    · rw [if_neg (by rw [endsL_length]; omega), s1]
  · simp only
    rw [if_pos (by omega), Int.toNat_natCast]
    have hb := encAll_bytes l 0 fun r hr => (hl.2 r hr).ok
    have hscan := scan_cut l ((encAll 0 l).take c) [] 0 c (fun r hr => (hl.2 r hr).ok) rfl (by omega) (by rw [encAll_length]; exact hcl) (by simp; omega)
    simp only [List.nil_append, Nat.zero_add] at hscan
    refine bindO_eq (scan_j _ (hb.take _) (by rw [List.length_take]; omega) hscan) ?_
    simp only [ne_eq, not_true_eq_false, if_false]
    rw [if_pos (by omega), Int.toNat_natCast]
    refine bindO_eq (same_refl _ (by rw [List.length_take]; omega)) ?_
    simp only [bindO_some, bindO_none, joinO_inl, joinO_inr, joinO_none, outO_some, outO_none, cond_ite, List.take_length, Nat.le_refl, if_true, Nat.mul_one, Int.mul_one, cond_true, cond_false, Bool.not_true]
    by_cases h : endC l c = c
    · simp [h]
    · have : ¬ ((endC l c : Int) = (c : Int)) := by omega
      simp [h, this]
end Go.Proofs.Ytmkbnmjhkghdjaa
