/- Chapter 18, plain: the codes are offered. -/
import Derived.Test.YtonejiaiieiboaaJ8
set_option linter.unusedVariables false
set_option linter.unusedSimpArgs false
namespace Go.Proofs.Ytonejiaiieiboaa
open Go.RowKit

/-- Where the link stands: the J-th of the codes W waits, Z comes behind them. -/
structure PInv (W Z : List Int) (fin : Bool) (J : Nat) (r1 r2 r3 : Int) (r4 : List Int) (r5 r6 : Bool) (last : Int) (A : List Int) : Prop where
  may : MayP r1 r2 r3 r4 r5 r6
  fi : r5 = fin
  seq : r1 = J
  jw : J ≤ W.length
  la : last = (J : Int) ∨ (last = (J : Int) - 1 ∧ 1 ≤ J)
  acc : A = W.take last.toNat
  run : (J = 0 ∧ W = [] ∧ r2 = 0) ∨ (1 ≤ J ∧ r2 = W.getD (J - 1) 0 ∧ r4 = W.drop J ++ Z)
  wp : ∀ i, i < W.length → Pc (W.getD i 0)
theorem d_out {γ : Type} {lost : Bool} {r1 r2 r3 : Int} {r4 : List Int} {r5 r6 : Bool} {last : Int} {A : List Int} {f : Int} {e g : Bool} {c n : Int} (hn : n = last + 1) (h3 : 0 ≤ last ∧ last ≤ 1000) (hA : A.length ≤ 1000) :
    loopO (dB (outSend c n) lost : (Int × Lk) → Option ((Int × Lk) ⊕ (Lk ⊕ γ))) (0, (r1, (r2, (r3, (r4, (r5, (r6, (last, (A, (f, (e, g))))))))))) = some (.inl (r1, (r2, (r3, (r4, (r5, (r6, ((dSend lost c n last A).1, ((dSend lost c n last A).2, (f, (e, g))))))))))) :=
  d_send (tl := [(3, (0, (0, (1, 500)))), (3, (0, (0, (2, 32000))))]) (by simp) (by simp) (.inl hn) h3 hA
theorem d_fire {γ : Type} {lost : Bool} {r1 r2 r3 : Int} {r4 : List Int} {r5 r6 : Bool} {last : Int} {A : List Int} {f : Int} {e g : Bool} {c n w : Int} (hn : n = last + 1 ∨ (n = last ∧ 1 ≤ last)) (h3 : 0 ≤ last ∧ last ≤ 1000) (hA : A.length ≤ 1000) :
    loopO (dB [(1, (c, (n, (0, 0)))), (3, (0, (0, (1, w))))] lost : (Int × Lk) → Option ((Int × Lk) ⊕ (Lk ⊕ γ))) (0, (r1, (r2, (r3, (r4, (r5, (r6, (last, (A, (f, (e, g))))))))))) = some (.inl (r1, (r2, (r3, (r4, (r5, (r6, ((dSend lost c n last A).1, ((dSend lost c n last A).2, (f, (e, g))))))))))) :=
  d_send (tl := [(3, (0, (0, (1, w))))]) (by simp) (by simp) hn h3 hA
section
variable {W Z : List Int} {J : Nat} {r1 r2 r3 : Int} {r4 : List Int} {r5 r6 : Bool} {last : Int} {A : List Int}
theorem PInv.alen {fin : Bool} (h : PInv W Z fin J r1 r2 r3 r4 r5 r6 last A) : A.length ≤ W.length := by rw [h.acc, List.length_take]; omega
theorem wp_app {d : Int} (h : ∀ i, i < W.length → Pc (W.getD i 0)) (hd : Pc d) : ∀ i, i < (W ++ [d]).length → Pc ((W ++ [d]).getD i 0) := fun i hi => by
  simp only [List.length_append, List.length_cons, List.length_nil] at hi
  by_cases hl : i < W.length
  · rw [getD_app_lt hl]; exact h i hl
  · rw [show i = W.length from by omega, getD_app_last]; exact hd
/-- One more code is offered. -/
theorem offer_more {d : Int} (hd : Pc d) (h : PInv W [] false J r1 r2 r3 r4 r5 r6 last A) (hW : W.length < 14) {γ : Type} (lost : Bool) :
    ∃ J' s1 s2 s3 s4 s5 s6 l last' A', OfferR (r1, (r2, (r3, (r4, (r5, r6))))) d = ((s1, (s2, (s3, (s4, (s5, s6))))), (l, 0)) ∧
      loopO (dB l lost : (Int × Lk) → Option ((Int × Lk) ⊕ (Lk ⊕ γ))) (0, (s1, (s2, (s3, (s4, (s5, (s6, (last, (A, (0, (false, false))))))))))) = some (.inl (s1, (s2, (s3, (s4, (s5, (s6, (last', (A', (0, (false, false))))))))))) ∧
      PInv (W ++ [d]) [] false J' s1 s2 s3 s4 s5 s6 last' A' := by
  have hl := h.la
  have hj := h.jw
  have hs := h.seq
  have hal := h.alen
  rcases h.run with ⟨rfl, rfl, h0⟩ | ⟨hJ, h2, h4⟩
  · obtain ⟨e, hm⟩ := offer_p0 h.may d hd h.fi h0 (by omega)
    have hlast : last = 0 := by omega
    have hA : A = [] := by rw [h.acc]; simp
    subst hlast hA
    have h1 : r1 = 0 := by omega
    subst h1
    have hd1 := d_out (γ := γ) (lost := lost) (r1 := 0 + 1) (r2 := d) (r3 := 500) (r4 := []) (r5 := false) (r6 := r6) (last := 0) (A := []) (f := 0) (e := false) (g := false) (c := d) (n := 0 + 1) rfl (by omega) (by simp)
    refine ⟨1, _, _, _, _, _, _, _, _, _, e, hd1, ⟨hm, rfl, rfl, by simp, ?_, ?_, .inr ⟨Nat.le_refl _, rfl, rfl⟩, wp_app (fun i hi => by simp at hi) hd⟩⟩
    · unfold dSend; cases lost <;> simp
    · unfold dSend; cases lost <;> simp
  · have hp := h.wp (J - 1) (by omega)
    have h0 : ¬ r2 = 0 := by rw [h2]; omega
    have h4l : r4.length = W.length - J := by rw [h4]; simp
    obtain ⟨e, hm⟩ := offer_p1 h.may d hd h.fi h0 (by omega) (by omega)
    refine ⟨J, _, _, _, _, _, _, _, _, _, e, d_nil, ⟨hm, rfl, hs, by simp; omega, hl, ?_, .inr ⟨hJ, ?_, ?_⟩, wp_app h.wp hd⟩⟩
    · rw [h.acc, List.take_append_of_le_length (by omega)]
    · rw [getD_app_lt (by omega)]; exact h2
    · rw [h4, List.append_nil, List.append_nil, List.drop_append_of_le_length hj]
end
/-- While codes are offered. -/
def IA (a1 : List Int) : (Int × (List Int × (Lk × Int))) → Prop := fun (i, (W, ((r1, (r2, (r3, (r4, (r5, (r6, (last, (A, (f, (e, g)))))))))), at_))) =>
  i = (W.length : Int) ∧ W.length ≤ 14 ∧ W.length ≤ a1.length ∧ at_ = (W.length : Int) ∧ f = 0 ∧ e = false ∧ g = false ∧ ∃ J, PInv W [] false J r1 r2 r3 r4 r5 r6 last A
def MuA : (Int × (List Int × (Lk × Int))) → Nat := fun x => (14 - x.1).toNat
theorem a_round (a1 : List Int) (a2 : List Bool) (hb : Bytes a1) (Q : ((List Int × (Lk × Int)) ⊕ Bool) → Prop)
    (hQ : ∀ W r1 r2 r3 r4 r5 r6 last A at_ J, W.length ≤ 14 → at_ = (W.length : Int) → PInv W [] false J r1 r2 r3 r4 r5 r6 last A → Q (.inl (W, ((r1, (r2, (r3, (r4, (r5, (r6, (last, (A, (0, (false, false)))))))))), at_))))
    (x : Int × (List Int × (Lk × Int))) (hx : IA a1 x) : PostS (IA a1) Q MuA (MuA x) (OA a1 a2 x) := by
  obtain ⟨i, W, ⟨r1, r2, r3, r4, r5, r6, last, A, f, e, g⟩, at_⟩ := x
  obtain ⟨rfl, h14, hla, rfl, rfl, rfl, rfl, J, hI⟩ := hx
  have hal := hI.alen
  by_cases hk : W.length < a1.length ∧ W.length < 14
  · have hX := hb.getD W.length
    have ht0 : 0 ≤ (a1.getD W.length 0).tmod 99 := Int.tmod_nonneg _ hX.1
    have ht1 : (a1.getD W.length 0).tmod 99 < 99 := Int.tmod_lt_of_pos _ (by omega)
    have hd : Pc (101 + (a1.getD W.length 0).tmod 99) := by unfold Pc; omega
    have fin : ∀ (J' : Nat) (s1 s2 s3 : Int) (s4 : List Int) (s5 s6 : Bool) (last' : Int) (A' : List Int), PInv (W ++ [101 + (a1.getD W.length 0).tmod 99]) [] false J' s1 s2 s3 s4 s5 s6 last' A' →
        PostS (IA a1) Q MuA (MuA ((W.length : Int), (W, ((r1, (r2, (r3, (r4, (r5, (r6, (last, (A, (0, (false, false)))))))))), (W.length : Int))))) (some (.inl ((W.length : Int) + 1, (W ++ [101 + (a1.getD W.length 0).tmod 99], ((s1, (s2, (s3, (s4, (s5, (s6, (last', (A', (0, (false, false)))))))))), (W.length : Int) + 1))))) := fun J' s1 s2 s3 s4 s5 s6 last' A' hp => by
      refine .next ⟨by simp, by simp; omega, by simp; omega, by simp, rfl, rfl, rfl, J', hp⟩ ?_
      show (14 - ((W.length : Int) + 1)).toNat < (14 - (W.length : Int)).toNat
      omega
    unfold OA
    by_cases ha : W.length + 1 ≤ a2.length
    · obtain ⟨J', s1, s2, s3, s4, s5, s6, l, last', A', o1, o2, o3⟩ := offer_more hd hI hk.2 (γ := ((Int × (List Int × (Lk × Int))) ⊕ ((List Int × (Lk × Int)) ⊕ Bool))) (a2.getD W.length false)
      simp (disch := (first | omega | (simp only [List.length_append, List.length_cons, List.length_nil, List.nil_append, List.length_take, List.length_drop]; omega))) only [↓bindO_some, ↓bindO_none, ↓joinO_inl, ↓joinO_inr, ↓joinO_none, ↓outO_some, ↓outO_none, ↓cond_true, ↓cond_false, ↓cond_and, ↓cond_or, ↓cond_not, ↓cond_ite, ↓if_pos, ↓if_neg, ↓if_true, ↓if_false, List.take_length, Nat.le_refl, Bool.not_true, Bool.not_false, ↓get_bz (0 : Int), ↓get_bz false, get_b false, Int.toNat_natCast, wrap_i64', ↓offer_bb hI.may, o1, o2, ne_eq, not_true_eq_false, Int.add_sub_cancel]
      exact fin J' s1 s2 s3 s4 s5 s6 last' A' o3
    · obtain ⟨J', s1, s2, s3, s4, s5, s6, l, last', A', o1, o2, o3⟩ := offer_more hd hI hk.2 (γ := ((Int × (List Int × (Lk × Int))) ⊕ ((List Int × (Lk × Int)) ⊕ Bool))) false
      simp (disch := (first | omega | (simp only [List.length_append, List.length_cons, List.length_nil, List.nil_append, List.length_take, List.length_drop]; omega))) only [↓bindO_some, ↓bindO_none, ↓joinO_inl, ↓joinO_inr, ↓joinO_none, ↓outO_some, ↓outO_none, ↓cond_true, ↓cond_false, ↓cond_and, ↓cond_or, ↓cond_not, ↓cond_ite, ↓if_pos, ↓if_neg, ↓if_true, ↓if_false, List.take_length, Nat.le_refl, Bool.not_true, Bool.not_false, ↓get_bz (0 : Int), ↓get_bz false, Int.toNat_natCast, wrap_i64', ↓offer_bb hI.may, o1, dB0_eq, o2, ne_eq, not_true_eq_false, Int.add_sub_cancel]
      exact fin J' s1 s2 s3 s4 s5 s6 last' A' o3
  · have h := hQ W r1 r2 r3 r4 r5 r6 last A (W.length : Int) J h14 rfl hI
    unfold OA
    by_cases hl : W.length < a1.length
    · simp (disch := omega) only [↓bindO_some, ↓bindO_none, ↓joinO_inl, ↓joinO_inr, ↓joinO_none, ↓outO_some, ↓outO_none, ↓cond_true, ↓cond_false, ↓cond_and, ↓cond_or, ↓cond_not, ↓cond_ite, ↓if_pos, ↓if_neg, ↓if_true, ↓if_false, List.take_length, Nat.le_refl, Bool.not_true, Bool.not_false]
      exact .stop h
    · simp (disch := omega) only [↓bindO_some, ↓bindO_none, ↓joinO_inl, ↓joinO_inr, ↓joinO_none, ↓outO_some, ↓outO_none, ↓cond_true, ↓cond_false, ↓cond_and, ↓cond_or, ↓cond_not, ↓cond_ite, ↓if_pos, ↓if_neg, ↓if_true, ↓if_false, List.take_length, Nat.le_refl, Bool.not_true, Bool.not_false]
      exact .stop h
end Go.Proofs.Ytonejiaiieiboaa
