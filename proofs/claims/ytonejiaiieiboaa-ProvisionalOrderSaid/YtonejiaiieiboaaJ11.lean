/- Chapter 18, plain: the theorem. -/
import Derived.Test.YtonejiaiieiboaaJ10
set_option linter.unusedVariables false
set_option linter.unusedSimpArgs false
namespace Go.Proofs.Ytonejiaiieiboaa
open Go.RowKit

theorem oc (W : List Int) (h : W.length ≤ 1000) : loopO (OC W W) 0 = some (.inl ()) := by
  refine loopO_from (fun i => (i : Int)) W.length rfl (fun i hi => ?_) ?_
  · unfold OC
    simp (disch := omega) only [↓bindO_some, ↓bindO_none, ↓joinO_inl, ↓joinO_inr, ↓joinO_none, ↓outO_some, ↓outO_none, ↓cond_true, ↓cond_false, ↓cond_and, ↓cond_or, ↓cond_not, ↓cond_ite, ↓if_pos, ↓if_neg, ↓if_true, ↓if_false, List.take_length, Nat.le_refl, Bool.not_true, Bool.not_false, ↓get_bz (0 : Int), Int.toNat_natCast, wrap_i64', ne_eq, not_true_eq_false]
    rfl
  · unfold OC
    simp (disch := omega) only [↓bindO_some, ↓bindO_none, ↓joinO_inl, ↓joinO_inr, ↓joinO_none, ↓outO_some, ↓outO_none, ↓cond_true, ↓cond_false, ↓cond_and, ↓cond_or, ↓cond_not, ↓cond_ite, ↓if_pos, ↓if_neg, ↓if_true, ↓if_false, List.take_length, Nat.le_refl, Bool.not_true, Bool.not_false]
theorem order_law (a : List Int × List Bool) (hw : WfIs [(.tmp 0 false [(.dat (.list (.int .u8)))]), (.tmp 1 false [(.dat (.list .bool))])] a) : dialtonelaw18_ProvisionalOrder a = some true := by
  obtain ⟨a1, a2⟩ := a
  have hb : Bytes a1 := wfBytes hw.1.1
  rw [order_eq]
  refine loopO_postG (IA a1) MuA (fun o => o = some true) (fun x hx => a_round a1 a2 hb _ ?_ x hx) ?_
  · intro W r1 r2 r3 r4 r5 r6 last A at_ J h14 hat hI
    have hm := hI.may
    have hal := hI.alen
    show joinO (some (Sum.inl _)) _ = some true
    have last' : ∀ v l s1 s2 s3 s4 s5 s6 la at' r, joinO (some (.inl (v, (l, ((s1, (s2, (s3, (s4, (s5, (s6, (la, (W, (200, (false, false)))))))))), (at', r))))) : Option (OT2 ⊕ Bool)) (fun (v385, (v386, ((v387, (v388, (v389, (v390, (v391, (v392, (v393, (v394, (v395, (v396, v397)))))))))), (v398, (v399, (v400, (v401, (v402, (v403, v404))))))))) =>
        bif (decide (v395 ≠ (200 : Int))) then some Bool.false else bif v396 then some Bool.false else bif v397 then some Bool.false else
          bif (decide ((((List.length v394) : Nat) : Int) ≠ (((List.length W) : Nat) : Int))) then some Bool.false else
            joinO (loopO (OC W v394) (0 : Int)) fun _ => some Bool.true) = some true := fun v l s1 s2 s3 s4 s5 s6 la at' r => by
      simp (disch := omega) only [↓bindO_some, ↓bindO_none, ↓joinO_inl, ↓joinO_inr, ↓joinO_none, ↓outO_some, ↓outO_none, ↓cond_true, ↓cond_false, ↓cond_and, ↓cond_or, ↓cond_not, ↓cond_ite, ↓if_pos, ↓if_neg, ↓if_true, ↓if_false, List.take_length, Nat.le_refl, Bool.not_true, Bool.not_false, ne_eq, not_true_eq_false, oc]
    rcases hI.run with ⟨rfl, rfl, h0⟩ | ⟨hJ, h2, h4⟩
    · obtain ⟨e, mA⟩ := offer_a0 hm 200 (by unfold Ac; omega) hI.fi h0
      have hA : A = [] := by rw [hI.acc]; simp
      subst hA
      simp (disch := omega) only [↓bindO_some, ↓bindO_none, ↓joinO_inl, ↓joinO_inr, ↓joinO_none, ↓outO_some, ↓outO_none, ↓cond_true, ↓cond_false, ↓cond_and, ↓cond_or, ↓cond_not, ↓cond_ite, ↓if_pos, ↓if_neg, ↓if_true, ↓if_false, List.take_length, Nat.le_refl, Bool.not_true, Bool.not_false, ↓offer_bb hm, e, ne_eq, not_true_eq_false, dB0_eq, d_fin]
      refine loopO_postG (IB []) MuB (fun o => o = some true) (fun x hx => b_round [] a2 (by simp) _ ?_ x hx) ?_
      · intro v l s1 s2 s3 s4 s5 s6 la at' r
        first | exact last' v l s1 s2 s3 s4 s5 s6 la at' r | simp (disch := omega) only [↓bindO_some, ↓bindO_none, ↓joinO_inl, ↓joinO_inr, ↓joinO_none, ↓outO_some, ↓outO_none, ↓cond_true, ↓cond_false, ↓cond_and, ↓cond_or, ↓cond_not, ↓cond_ite, ↓if_pos, ↓if_neg, ↓if_true, ↓if_false, List.take_length, Nat.le_refl, Bool.not_true, Bool.not_false, ne_eq, not_true_eq_false, oc _ (show W.length ≤ 1000 by omega)]
      · exact ⟨by omega, by omega, by simp at hat; omega, by simp at hat; omega, rfl, rfl, .inl ⟨rfl, rfl⟩⟩
    · have hp := hI.wp (J - 1) (by have := hI.jw; omega)
      have h0 : ¬ r2 = 0 := by rw [h2]; omega
      have hl4 : r4.length ≤ 14 := by rw [h4]; simp; omega
      obtain ⟨e, mA⟩ := offer_a1 hm 200 (by unfold Ac; omega) hI.fi h0 (by omega)
      simp (disch := omega) only [↓bindO_some, ↓bindO_none, ↓joinO_inl, ↓joinO_inr, ↓joinO_none, ↓outO_some, ↓outO_none, ↓cond_true, ↓cond_false, ↓cond_and, ↓cond_or, ↓cond_not, ↓cond_ite, ↓if_pos, ↓if_neg, ↓if_true, ↓if_false, List.take_length, Nat.le_refl, Bool.not_true, Bool.not_false, ↓offer_bb hm, e, ne_eq, not_true_eq_false, dB0_eq, d_nil]
      refine loopO_postG (IB W) MuB (fun o => o = some true) (fun x hx => b_round W a2 h14 _ ?_ x hx) ?_
      · intro v l s1 s2 s3 s4 s5 s6 la at' r
        first | exact last' v l s1 s2 s3 s4 s5 s6 la at' r | simp (disch := omega) only [↓bindO_some, ↓bindO_none, ↓joinO_inl, ↓joinO_inr, ↓joinO_none, ↓outO_some, ↓outO_none, ↓cond_true, ↓cond_false, ↓cond_and, ↓cond_or, ↓cond_not, ↓cond_ite, ↓if_pos, ↓if_neg, ↓if_true, ↓if_false, List.take_length, Nat.le_refl, Bool.not_true, Bool.not_false, ne_eq, not_true_eq_false, oc _ (show W.length ≤ 1000 by omega)]
      · refine ⟨by omega, by omega, by omega, by omega, rfl, rfl, .inr ⟨rfl, by omega, J, hJ, ?_, .inl (by omega)⟩⟩
        exact ⟨mA, rfl, hI.seq, hI.jw, hI.la, hI.acc, .inr ⟨hJ, h2, by rw [h4, List.append_nil]⟩, hI.wp⟩
  · exact ⟨rfl, by simp, by simp, rfl, rfl, rfl, rfl, 0, may_start, rfl, rfl, by simp, .inl rfl, rfl, .inl ⟨rfl, rfl, rfl⟩, fun i hi => by simp at hi⟩
end Go.Proofs.Ytonejiaiieiboaa
