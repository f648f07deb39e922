import Derived.Test.YtheicchelhjcjaaJ19p
set_option linter.unusedVariables false
set_option linter.unusedSimpArgs false
set_option maxRecDepth 100000
namespace Go.Proofs.Ytheicchelhjcjaa
open Go.RowKit
structure RI (n : Nat) (A : List Ac) (O : Bool) (S : List Int) (F : Fk) : Prop where
  ok : OKn n A O S F.1
  vf : VF F
  nn : NN F.1
  oc : (O = true ∨ ∃ x ∈ A, x.1 = 4 ∨ x.1 = 6) → F.2.2.2.1 = true ∨ F.2.2.2.2 = true
theorem ri_next {n : Nat} {l : List Br} {a2 : Int} {a3 a4 a5 : Bool} {k b c : Int} {o o' : Bool} {s : List Int} (h : CKO l a2 a3 a4 a5 k b c) (hN : NN l) (hl : l.length = n) (hs : s.length = n) (hz : ∀ j, j < n → (l.getD j d0).2.2.1 = 0 → s.getD j 0 = 0) (ho : o = true → a4 = true ∨ a5 = true)
    (ho' : o' = true ↔ o = true ∨ (k = 4 ∨ (k = 2 ∧ c ≥ 600))) : RI n (STC l a2 a3 a4 a5 k b c).2 o' s (STC l a2 a3 a4 a5 k b c).1 := by
  have hp := stc_sp h hN
  have hlen := stc_len (a2 := a2) (a3 := a3) (a4 := a4) (a5 := a5) (k := k) (b := b) (c := c) h.v.len
  have h16 := h.v.len
  have hF := hp.len
  refine ⟨⟨by omega, hs, by omega, hlen.2, fun x hx g => ?_, fun g => ?_, hp.d, fun j hj g => hz j hj (hp.z j (by omega) g)⟩, stc_vp h, hp.nn, fun g => ?_⟩
  · obtain ⟨i, i1, i2, i3, i4, i5⟩ := hp.o x hx g
    exact ⟨i, i1, by omega, hz i (by omega) i3, i4, fun m hm => i5 m (by omega)⟩
  · obtain ⟨g1, g2, g3, g4⟩ := hp.s g
    refine ⟨?_, g4⟩
    cases o' with
    | false => rfl
    | true =>
      rcases ho'.1 rfl with k | k
      · rcases ho k with k | k
        · rw [g1] at k; cases k
        · rw [g2] at k; cases k
      · exact (g3 k).elim
  · rcases g with g | g
    · rcases ho'.1 g with g | g
      · exact hp.c ((ho g).elim .inl fun g => .inr (.inl g))
      · exact hp.c (.inr (.inr g))
    · exact hp.e g
theorem srt_nn {T : List Tg} (n : Nat) : NN (SRT T n) := fun j hj => by
  have hm : (SRT T n).getD j d0 ∈ SRT T n := by rw [getD_get d0 hj]; exact List.getElem_mem hj
  obtain ⟨k, _, k2⟩ := mem_SRT.1 hm
  rw [← k2]
  exact Int.le_refl 0
theorem rep_z (n j : Nat) : (List.replicate n (0 : Int)).getD j 0 = 0 := by
  rw [List.getD_eq_getElem?_getD, List.getElem?_replicate]
  split <;> rfl
theorem order_j (a1 : List Tg) (a2 : List In) : dialtonelaw23_ForkOrder (a1, a2) = some true := by
  rw [order_eq]
  obtain ⟨⟨f1, f2, f3, f4, f5⟩, A, e, h1, h2, h3, h4, h5⟩ := new_j a1
  simp only [h1, bindO_some]
  by_cases he : e = 0
  · rcases h5 with ⟨_, hl, hT, hF, hA⟩ | ⟨hn, _⟩
    · have h0 : RI a1.length A false (List.replicate (Int.toNat (((List.length a1) : Nat) : Int)) (0 : Int)) (f1, (f2, (f3, (f4, f5)))) := by
        have hv := srt_vj hl hT
        have hp := go_sp (l := SRT a1 a1.length) (B := []) (sp := False) (a4 := false) hv (srt_nn _) rfl (fun _ _ g => g) (fun x hx => by cases hx) (fun g => by rcases g with g | g; exact g; exact g.elim)
        rw [List.nil_append] at hp
        rw [hF]
        subst hA
        have hsl := SRT_len a1 a1.length
        have hFl := hp.len
        refine ⟨⟨by omega, by simp, hl, h4, fun x hx g => ?_, fun g => ⟨rfl, (hp.s g).2.2.2⟩, hp.d, fun j _ _ => rep_z _ _⟩, GO_vp hv, hp.nn, fun g => ?_⟩
        · obtain ⟨i, i1, i2, i3, i4, i5⟩ := hp.o x hx g
          exact ⟨i, i1, by omega, rep_z _ _, i4, fun m hm => i5 m (by omega)⟩
        · rcases g with g | g
          · cases g
          · exact hp.e g
      generalize List.replicate (Int.toNat (((List.length a1) : Nat) : Int)) (0 : Int) = S0 at h0 ⊢
      rw [he]
      simp (disch := omega) only [↓bindO_some, ↓bindO_none, ↓joinO_inl, ↓joinO_inr, ↓joinO_none, ↓outO_some, ↓outO_none, ↓cond_true, ↓cond_false, ↓cond_and, ↓cond_or, ↓cond_not, ↓cond_ite, ↓if_pos, ↓if_neg, ↓if_true, ↓if_false, List.take_length, Nat.le_refl, Bool.not_true, Bool.not_false, ne_eq, not_true, decide_false]
      refine loopO_postG (I := fun x => ∃ (v : Nat) (A : List Ac) (O : Bool) (S : List Int) (F : Fk), x = ((v : Int), (A, (O, (S, F)))) ∧ RI a1.length A O S F ∧ v ≤ a2.length ∧ v ≤ 60) (fun x => 61 - x.1.toNat) (fun o => o = some true) (fun x hx => ?_) ⟨0, A, false, S0, _, rfl, h0, by omega, by omega⟩
      obtain ⟨v, A, O, S, ⟨f1, f2, f3, f4, f5⟩, rfl, hR, hv, h60⟩ := hx
      obtain ⟨r, hr, m, o, s, rfl, ho, hs, hz⟩ := oi_j hR.ok
      have hoc : o = true → f4 = true ∨ f5 = true := fun g => hR.oc (ho g)
      have hlF := hR.ok.lF
      unfold orB
      simp (disch := (first | omega | (simp only [List.length_append, List.length_cons, List.length_nil, List.nil_append, List.length_take, List.length_drop]; omega))) only [↓bindO_some, ↓bindO_none, ↓joinO_inl, ↓joinO_inr, ↓joinO_none, ↓outO_some, ↓outO_none, ↓cond_true, ↓cond_false, ↓cond_and, ↓cond_or, ↓cond_not, ↓cond_ite, ↓if_pos, ↓if_neg, ↓if_true, ↓if_false, List.take_length, Nat.le_refl, Bool.not_true, Bool.not_false, if_pos, if_neg, hr]
      by_cases c1 : v = a2.length
      · simp (disch := (first | omega | (simp only [List.length_append, List.length_cons, List.length_nil, List.nil_append, List.length_take, List.length_drop]; omega))) only [↓bindO_some, ↓bindO_none, ↓joinO_inl, ↓joinO_inr, ↓joinO_none, ↓outO_some, ↓outO_none, ↓cond_true, ↓cond_false, ↓cond_and, ↓cond_or, ↓cond_not, ↓cond_ite, ↓if_pos, ↓if_neg, ↓if_true, ↓if_false, List.take_length, Nat.le_refl, Bool.not_true, Bool.not_false, if_pos, if_neg, c1]
        exact PostS.stop rfl
      · by_cases c2 : v = 60
        · simp (disch := (first | omega | (simp only [List.length_append, List.length_cons, List.length_nil, List.nil_append, List.length_take, List.length_drop]; omega))) only [↓bindO_some, ↓bindO_none, ↓joinO_inl, ↓joinO_inr, ↓joinO_none, ↓outO_some, ↓outO_none, ↓cond_true, ↓cond_false, ↓cond_and, ↓cond_or, ↓cond_not, ↓cond_ite, ↓if_pos, ↓if_neg, ↓if_true, ↓if_false, List.take_length, Nat.le_refl, Bool.not_true, Bool.not_false, if_pos, if_neg, c2]
          exact PostS.stop rfl
        · obtain ⟨⟨k, b, c⟩, hx, hb⟩ := get_at i0 (show v < a2.length by omega)
          obtain ⟨⟨s1, s2, s3, s4, s5⟩, B, r, q1, q2, q3, q4, q5⟩ := step_j f1 f2 f3 f4 f5 k b c
          have hn1 : ((v : Int) + 1) = ((v + 1 : Nat) : Int) := rfl
          have hm : 61 - (((v + 1 : Nat) : Int)).toNat < 61 - ((v : Nat) : Int).toNat := by rw [Int.toNat_natCast, Int.toNat_natCast]; omega
          simp (disch := (first | omega | (simp only [List.length_append, List.length_cons, List.length_nil, List.nil_append, List.length_take, List.length_drop]; omega))) only [↓bindO_some, ↓bindO_none, ↓joinO_inl, ↓joinO_inr, ↓joinO_none, ↓outO_some, ↓outO_none, ↓cond_true, ↓cond_false, ↓cond_and, ↓cond_or, ↓cond_not, ↓cond_ite, ↓if_pos, ↓if_neg, ↓if_true, ↓if_false, List.take_length, Nat.le_refl, Bool.not_true, Bool.not_false, if_pos, if_neg, ↓hb, q1, wrap_i64', hn1]
          rcases q5 with ⟨hr0, hck, hF, hA⟩ | ⟨hr0, _⟩
          · have key : ∀ o' : Bool, (o' = true ↔ o = true ∨ (k = 4 ∨ (k = 2 ∧ c ≥ 600))) → RI a1.length B o' s (s1, (s2, (s3, (s4, s5)))) := fun o' g => by
              rw [hF, hA]
              exact ri_next hck hR.nn hlF hs hz hoc g
            rw [hr0]
            cases o with
            | true =>
              simp (disch := (first | omega | (simp only [List.length_append, List.length_cons, List.length_nil, List.nil_append, List.length_take, List.length_drop]; omega))) only [↓bindO_some, ↓bindO_none, ↓joinO_inl, ↓joinO_inr, ↓joinO_none, ↓outO_some, ↓outO_none, ↓cond_true, ↓cond_false, ↓cond_and, ↓cond_or, ↓cond_not, ↓cond_ite, ↓if_pos, ↓if_neg, ↓if_true, ↓if_false, List.take_length, Nat.le_refl, Bool.not_true, Bool.not_false, if_pos, if_neg, decide_true]
              exact PostS.next ⟨v + 1, _, _, _, _, rfl, key true (by simp), by omega, by omega⟩ hm
            | false =>
              by_cases k4 : k = 4
              · simp (disch := (first | omega | (simp only [List.length_append, List.length_cons, List.length_nil, List.nil_append, List.length_take, List.length_drop]; omega))) only [↓bindO_some, ↓bindO_none, ↓joinO_inl, ↓joinO_inr, ↓joinO_none, ↓outO_some, ↓outO_none, ↓cond_true, ↓cond_false, ↓cond_and, ↓cond_or, ↓cond_not, ↓cond_ite, ↓if_pos, ↓if_neg, ↓if_true, ↓if_false, List.take_length, Nat.le_refl, Bool.not_true, Bool.not_false, if_pos, if_neg, decide_true, k4]
                exact PostS.next ⟨v + 1, _, _, _, _, rfl, key true (by simp [k4]), by omega, by omega⟩ hm
              · by_cases k2 : k = 2
                · simp (disch := (first | omega | (simp only [List.length_append, List.length_cons, List.length_nil, List.nil_append, List.length_take, List.length_drop]; omega))) only [↓bindO_some, ↓bindO_none, ↓joinO_inl, ↓joinO_inr, ↓joinO_none, ↓outO_some, ↓outO_none, ↓cond_true, ↓cond_false, ↓cond_and, ↓cond_or, ↓cond_not, ↓cond_ite, ↓if_pos, ↓if_neg, ↓if_true, ↓if_false, List.take_length, Nat.le_refl, Bool.not_true, Bool.not_false, if_pos, if_neg, decide_true, k2]
                  exact PostS.next ⟨v + 1, _, _, _, _, rfl, key _ (by rw [decide_eq_true_iff]; simp [k2]), by omega, by omega⟩ hm
                · simp (disch := (first | omega | (simp only [List.length_append, List.length_cons, List.length_nil, List.nil_append, List.length_take, List.length_drop]; omega))) only [↓bindO_some, ↓bindO_none, ↓joinO_inl, ↓joinO_inr, ↓joinO_none, ↓outO_some, ↓outO_none, ↓cond_true, ↓cond_false, ↓cond_and, ↓cond_or, ↓cond_not, ↓cond_ite, ↓if_pos, ↓if_neg, ↓if_true, ↓if_false, List.take_length, Nat.le_refl, Bool.not_true, Bool.not_false, if_pos, if_neg, decide_true]
                  exact PostS.next ⟨v + 1, _, _, _, _, rfl, key false (by simp [k4, k2]), by omega, by omega⟩ hm
          · simp (disch := (first | omega | (simp only [List.length_append, List.length_cons, List.length_nil, List.nil_append, List.length_take, List.length_drop]; omega))) only [↓bindO_some, ↓bindO_none, ↓joinO_inl, ↓joinO_inr, ↓joinO_none, ↓outO_some, ↓outO_none, ↓cond_true, ↓cond_false, ↓cond_and, ↓cond_or, ↓cond_not, ↓cond_ite, ↓if_pos, ↓if_neg, ↓if_true, ↓if_false, List.take_length, Nat.le_refl, Bool.not_true, Bool.not_false, if_pos, if_neg, decide_true]
            have hok := hR.ok
            exact PostS.next ⟨v + 1, [], o, s, (f1, (f2, (f3, (f4, f5)))), rfl, ⟨⟨hlF, hs, hok.n16, by simp, (fun x hx => by cases hx), (fun ⟨x, hx, _⟩ => by cases hx), List.Pairwise.nil, hz⟩, hR.vf, hR.nn, fun g => hoc (g.elim id fun ⟨x, hx, _⟩ => by cases hx)⟩, by omega, by omega⟩ hm
    · exact (hn he).elim
  · rw [decide_eq_true (show e ≠ 0 from he)]
    rfl
theorem order_main (a : List Tg × List In) (_ : WfIs [(.tmp 0 false [(.dat (.list (.pair .str (.int .i64))))]), (.tmp 1 false [(.dat (.list (.pair (.int .u8) (.pair (.int .i64) (.int .i64)))))])] a) : dialtonelaw23_ForkOrder a = some true := order_j a.1 a.2
end Go.Proofs.Ytheicchelhjcjaa
