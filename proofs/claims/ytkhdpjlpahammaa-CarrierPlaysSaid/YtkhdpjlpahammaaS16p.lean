import Derived.Test.YtkhdpjlpahammaaS8bp
import Derived.Test.YtkhdpjlpahammaaZ4p
set_option linter.unusedVariables false
set_option linter.unusedSimpArgs false
set_option maxRecDepth 100000
set_option maxHeartbeats 2000000
namespace Go.Proofs.Ytkhdpjlpahammaa
open Go.RowKit
def pkey (p q : PcT) : Prop := p.2.1 < q.2.1 ∨ (p.2.1 = q.2.1 ∧ p.2.2.2.2.2.1 = false ∧ q.2.2.2.2.2.1 = true)
theorem plt_iff (p q : PcT) : plt p q ↔ atP p < atP q ∨ (atP p = atP q ∧ pkey p q) := Iff.rfl
theorem pkey_asym {p q : PcT} (h : pkey p q) : ¬ pkey q p := by
  unfold pkey at *
  rcases h with h | ⟨h1, h2, h3⟩ <;> rintro (k | ⟨k1, k2, k3⟩)
  · omega
  · omega
  · omega
  · rw [h2] at k3; cases k3
abbrev dDg : DgT := (0, ([], ([], (0, []))))
def atD (d : DgT) : Int := d.2.2.2.1
def FstAt (W : List DgT) (b : Nat) : Prop := b < W.length ∧ (∀ k, k < b → atD (W.getD b dDg) < atD (W.getD k dDg)) ∧ ∀ k, b < k → k < W.length → atD (W.getD b dDg) ≤ atD (W.getD k dDg)
theorem rfirst_j (fates : List FtT) (W : List DgT) (now sent lost : Int) (hl : W.length ≤ 1000) :
    (W = [] ∧ rfirst (fates, (W, (now, (sent, lost)))) = some (-1)) ∨ ∃ b : Nat, rfirst (fates, (W, (now, (sent, lost)))) = some (b : Int) ∧ FstAt W b := by
  unfold rfirst
  refine loopO_postG (P := fun o => (W = [] ∧ o = some (-1)) ∨ ∃ b : Nat, o = some (b : Int) ∧ FstAt W b)
    (fun x : Int × Int => ∃ i : Nat, x.1 = (i : Int) ∧ i ≤ W.length ∧ ((i = 0 ∧ x.2 = -1) ∨ ∃ b : Nat, x.2 = (b : Int) ∧ b < i ∧ (∀ k, k < b → atD (W.getD b dDg) < atD (W.getD k dDg)) ∧ ∀ k, b < k → k < i → atD (W.getD b dDg) ≤ atD (W.getD k dDg)))
    (fun x => W.length - x.1.toNat) (fun x hx => ?_) ⟨0, rfl, Nat.zero_le _, .inl ⟨rfl, rfl⟩⟩
  obtain ⟨x1, x2⟩ := x
  obtain ⟨i, rfl, hi, hb⟩ := hx
  simp only at hb ⊢
  have hn : ((i : Int) + 1) = ((i + 1 : Nat) : Int) := rfl
  by_cases h : i < W.length
  · obtain ⟨f, hf, hfb⟩ := get_at dDg h
    rcases hb with ⟨rfl, rfl⟩ | ⟨b, rfl, hbi, hb1, hb2⟩
    · simp (disch := (first | omega | (simp only [List.length_append, List.length_cons, List.length_nil, List.nil_append, List.length_take, List.length_drop]; omega))) only [↓bindO_some, ↓bindO_none, ↓joinO_inl, ↓joinO_inr, ↓joinO_none, ↓outO_some, ↓outO_none, ↓cond_true, ↓cond_false, ↓cond_and, ↓cond_or, ↓cond_not, ↓cond_ite, ↓if_pos, ↓if_neg, ↓if_true, ↓if_false, List.take_length, Nat.le_refl, Bool.not_true, Bool.not_false, if_pos, if_neg, wrap_i64', hn]
      exact .next ⟨1, rfl, by omega, .inr ⟨0, rfl, by omega, fun k hk => by omega, fun k hk1 hk2 => by omega⟩⟩ (by simp; omega)
    · obtain ⟨g, hg, hgb⟩ := get_at dDg (show b < W.length by omega)
      by_cases hlt : f.2.2.2.1 < g.2.2.2.1
      · simp (disch := (first | omega | (simp only [List.length_append, List.length_cons, List.length_nil, List.nil_append, List.length_take, List.length_drop]; omega))) only [↓bindO_some, ↓bindO_none, ↓joinO_inl, ↓joinO_inr, ↓joinO_none, ↓outO_some, ↓outO_none, ↓cond_true, ↓cond_false, ↓cond_and, ↓cond_or, ↓cond_not, ↓cond_ite, ↓if_pos, ↓if_neg, ↓if_true, ↓if_false, List.take_length, Nat.le_refl, Bool.not_true, Bool.not_false, if_pos, if_neg, ↓hfb, ↓hgb, wrap_i64', hn]
        refine .next ⟨i + 1, rfl, by omega, .inr ⟨i, rfl, by omega, fun k hk => ?_, fun k hk1 hk2 => by omega⟩⟩ (by simp; omega)
        rw [hf]
        rw [hg] at hb1 hb2
        have hfg : atD f < atD g := hlt
        rcases Nat.lt_trichotomy k b with q | q | q
        · exact Int.lt_trans hfg (hb1 k q)
        · subst q; rw [hg]; exact hfg
        · exact Int.lt_of_lt_of_le hfg (hb2 k q hk)
      · simp (disch := (first | omega | (simp only [List.length_append, List.length_cons, List.length_nil, List.nil_append, List.length_take, List.length_drop]; omega))) only [↓bindO_some, ↓bindO_none, ↓joinO_inl, ↓joinO_inr, ↓joinO_none, ↓outO_some, ↓outO_none, ↓cond_true, ↓cond_false, ↓cond_and, ↓cond_or, ↓cond_not, ↓cond_ite, ↓if_pos, ↓if_neg, ↓if_true, ↓if_false, List.take_length, Nat.le_refl, Bool.not_true, Bool.not_false, if_pos, if_neg, ↓hfb, ↓hgb, wrap_i64', hn]
        refine .next ⟨i + 1, rfl, by omega, .inr ⟨b, rfl, by omega, hb1, fun k hk1 hk2 => ?_⟩⟩ (by simp; omega)
        by_cases q : k = i
        · subst q; rw [hf, hg]; show g.2.2.2.1 ≤ f.2.2.2.1; omega
        · exact hb2 k hk1 (by omega)
  · simp (disch := (first | omega | (simp only [List.length_append, List.length_cons, List.length_nil, List.nil_append, List.length_take, List.length_drop]; omega))) only [↓bindO_some, ↓bindO_none, ↓joinO_inl, ↓joinO_inr, ↓joinO_none, ↓outO_some, ↓outO_none, ↓cond_true, ↓cond_false, ↓cond_and, ↓cond_or, ↓cond_not, ↓cond_ite, ↓if_pos, ↓if_neg, ↓if_true, ↓if_false, List.take_length, Nat.le_refl, Bool.not_true, Bool.not_false, if_neg]
    refine .stop ?_
    show _ ∨ _
    rcases hb with ⟨rfl, rfl⟩ | ⟨b, rfl, hbi, hb1, hb2⟩
    · left
      exact ⟨List.length_eq_zero_iff.1 (by omega), rfl⟩
    · right
      exact ⟨b, rfl, by omega, hb1, fun k k1 k2 => hb2 k k1 (by omega)⟩
theorem rNext_j (fates : List FtT) (W : List DgT) (now sent lost : Int) (hl : W.length ≤ 1000) :
    (W = [] ∧ rNext (fates, (W, (now, (sent, lost)))) = some (0, false)) ∨ ∃ b : Nat, rNext (fates, (W, (now, (sent, lost)))) = some (atD (W.getD b dDg), true) ∧ FstAt W b := by
  unfold rNext
  rcases rfirst_j fates W now sent lost hl with ⟨h1, h2⟩ | ⟨b, h1, h2⟩
  · left
    refine ⟨h1, ?_⟩
    simp (disch := (first | omega | (simp only [List.length_append, List.length_cons, List.length_nil, List.nil_append, List.length_take, List.length_drop]; omega))) only [↓bindO_some, ↓bindO_none, ↓joinO_inl, ↓joinO_inr, ↓joinO_none, ↓outO_some, ↓outO_none, ↓cond_true, ↓cond_false, ↓cond_and, ↓cond_or, ↓cond_not, ↓cond_ite, ↓if_pos, ↓if_neg, ↓if_true, ↓if_false, List.take_length, Nat.le_refl, Bool.not_true, Bool.not_false, if_pos, h2]
  · right
    refine ⟨b, ?_, h2⟩
    obtain ⟨f, hf, hfb⟩ := get_at dDg h2.1
    have := h2.1
    rw [hf]
    simp (disch := (first | omega | (simp only [List.length_append, List.length_cons, List.length_nil, List.nil_append, List.length_take, List.length_drop]; omega))) only [↓bindO_some, ↓bindO_none, ↓joinO_inl, ↓joinO_inr, ↓joinO_none, ↓outO_some, ↓outO_none, ↓cond_true, ↓cond_false, ↓cond_and, ↓cond_or, ↓cond_not, ↓cond_ite, ↓if_pos, ↓if_neg, ↓if_true, ↓if_false, List.take_length, Nat.le_refl, Bool.not_true, Bool.not_false, if_pos, if_neg, h1, ↓hfb]
    rfl
theorem cNext_j (fates : List FtT) (ps : List PcT) (sent lost now : Int) (hl : ps.length ≤ 1000) (hps : ∀ p ∈ ps, OkP p) :
    (ps = [] ∧ carrier_Carrier_Next (true, (fates, (ps, (sent, (lost, now))))) = some (0, false)) ∨ ∃ v, carrier_Carrier_Next (true, (fates, (ps, (sent, (lost, now))))) = some (v, true) ∧ (∃ k, k < ps.length ∧ v = atP (ps.getD k dP)) ∧ ∀ k, k < ps.length → v ≤ atP (ps.getD k dP) := by
  by_cases h0 : ps.length = 0
  · left
    refine ⟨List.length_eq_zero_iff.1 h0, ?_⟩
    unfold carrier_Carrier_Next
    simp (disch := (first | omega | (simp only [List.length_append, List.length_cons, List.length_nil, List.nil_append, List.length_take, List.length_drop]; omega))) only [↓bindO_some, ↓bindO_none, ↓joinO_inl, ↓joinO_inr, ↓joinO_none, ↓outO_some, ↓outO_none, ↓cond_true, ↓cond_false, ↓cond_and, ↓cond_or, ↓cond_not, ↓cond_ite, ↓if_pos, ↓if_neg, ↓if_true, ↓if_false, List.take_length, Nat.le_refl, Bool.not_true, Bool.not_false, if_pos]
  right
  have h00 : 0 < ps.length := by omega
  obtain ⟨f, hf, hfb⟩ := get_at dP h00
  have hfm : f ∈ ps := by rw [← hf, getD_get _ h00]; exact List.getElem_mem _
  have hfb' : ∀ {β : Type} (g : PcT → Option β), bindO ps[0]? g = g f := fun g => hfb g
  unfold carrier_Carrier_Next
  have hat := at_j (hps f hfm)
  simp (disch := (first | omega | (simp only [List.length_append, List.length_cons, List.length_nil, List.nil_append, List.length_take, List.length_drop]; omega))) only [↓bindO_some, ↓bindO_none, ↓joinO_inl, ↓joinO_inr, ↓joinO_none, ↓outO_some, ↓outO_none, ↓cond_true, ↓cond_false, ↓cond_and, ↓cond_or, ↓cond_not, ↓cond_ite, ↓if_pos, ↓if_neg, ↓if_true, ↓if_false, List.take_length, Nat.le_refl, Bool.not_true, Bool.not_false, if_pos, if_neg, ↓hfb', hat]
  refine loopO_postG (P := fun o => ∃ v, o = some (v, true) ∧ (∃ k, k < ps.length ∧ v = atP (ps.getD k dP)) ∧ ∀ k, k < ps.length → v ≤ atP (ps.getD k dP))
    (fun x : Int × Int => ∃ i : Nat, x.1 = (i : Int) ∧ i ≤ ps.length ∧ (∃ k, k < ps.length ∧ x.2 = atP (ps.getD k dP)) ∧ ∀ k, k < i → x.2 ≤ atP (ps.getD k dP))
    (fun x => ps.length - x.1.toNat) (fun x hx => ?_) ⟨0, rfl, Nat.zero_le _, ⟨0, h00, by rw [hf]⟩, fun k hk => by omega⟩
  obtain ⟨x1, x2⟩ := x
  obtain ⟨i, rfl, hi, hk, hm⟩ := hx
  simp only at hk hm ⊢
  have hn : ((i : Int) + 1) = ((i + 1 : Nat) : Int) := rfl
  by_cases h : i < ps.length
  · obtain ⟨g, hg, hgb⟩ := get_at dP h
    have hgm : g ∈ ps := by rw [← hg, getD_get _ h]; exact List.getElem_mem _
    have hag := at_j (hps g hgm)
    simp (disch := (first | omega | (simp only [List.length_append, List.length_cons, List.length_nil, List.nil_append, List.length_take, List.length_drop]; omega))) only [↓bindO_some, ↓bindO_none, ↓joinO_inl, ↓joinO_inr, ↓joinO_none, ↓outO_some, ↓outO_none, ↓cond_true, ↓cond_false, ↓cond_and, ↓cond_or, ↓cond_not, ↓cond_ite, ↓if_pos, ↓if_neg, ↓if_true, ↓if_false, List.take_length, Nat.le_refl, Bool.not_true, Bool.not_false, if_pos, if_neg, ↓hgb, hag, wrap_i64', hn]
    refine .next ⟨i + 1, rfl, by omega, ?_, fun k hk => ?_⟩ (by simp; omega)
    · show ∃ k, k < ps.length ∧ minA x2 (atP g) = _
      unfold minA
      split
      · exact ⟨i, h, by rw [hg]⟩
      · exact hk
    · show minA x2 (atP g) ≤ _
      by_cases q : k = i
      · subst q; rw [hg]; unfold minA; split <;> omega
      · have := hm k (by omega)
        unfold minA; split <;> omega
  · simp (disch := (first | omega | (simp only [List.length_append, List.length_cons, List.length_nil, List.nil_append, List.length_take, List.length_drop]; omega))) only [↓bindO_some, ↓bindO_none, ↓joinO_inl, ↓joinO_inr, ↓joinO_none, ↓outO_some, ↓outO_none, ↓cond_true, ↓cond_false, ↓cond_and, ↓cond_or, ↓cond_not, ↓cond_ite, ↓if_pos, ↓if_neg, ↓if_true, ↓if_false, List.take_length, Nat.le_refl, Bool.not_true, Bool.not_false, if_neg]
    refine .stop ?_
    show ∃ v, _
    exact ⟨x2, rfl, hk, fun k hk' => hm k (by omega)⟩
theorem dg_getD (ps : List PcT) (k : Nat) (hk : k < ps.length) : atD ((ps.map dgP).getD k dDg) = atP (ps.getD k dP) := by
  rw [getD_get _ (by rw [List.length_map]; exact hk), List.getElem_map, getD_get _ hk]; rfl
theorem same_j (fates : List FtT) (ps : List PcT) (sent lost now : Int) (hl : ps.length ≤ 1000) (hps : ∀ p ∈ ps, OkP p) :
    sameL ((true, (fates, (ps, (sent, (lost, now))))), (fates, (ps.map dgP, (now, (sent, lost))))) = some true := by
  have hN : ∃ n b, carrier_Carrier_Next (true, (fates, (ps, (sent, (lost, now))))) = some (n, b) ∧ rNext (fates, (ps.map dgP, (now, (sent, lost)))) = some (n, b) := by
    rcases cNext_j fates ps sent lost now hl hps with ⟨rfl, h1⟩ | ⟨v, h1, ⟨k, h2, h3⟩, h4⟩
    · rcases rNext_j fates ([].map dgP) now sent lost (by simp) with ⟨_, k1⟩ | ⟨b, _, k2, _⟩
      · exact ⟨_, _, h1, k1⟩
      · simp at k2
    · rcases rNext_j fates (ps.map dgP) now sent lost (by rw [List.length_map]; exact hl) with ⟨k0, _⟩ | ⟨b, k1, k2, k3, k4⟩
      · rw [List.map_eq_nil_iff] at k0; subst k0; simp at h2
      · refine ⟨_, _, h1, ?_⟩
        rw [k1]
        have hb : b < ps.length := by simpa using k2
        rw [dg_getD _ _ hb]
        have g1 := h4 b hb
        have g2 : atP (ps.getD b dP) ≤ v := by
          rw [h3]
          rcases Nat.lt_trichotomy k b with q | q | q
          · have := k3 k q; rw [dg_getD _ _ hb, dg_getD _ _ h2] at this; omega
          · subst q; exact Int.le_refl _
          · have := k4 k q (by simpa using h2); rw [dg_getD _ _ hb, dg_getD _ _ h2] at this; exact this
        rw [show v = atP (ps.getD b dP) by omega]
  obtain ⟨n, b, h1, h2⟩ := hN
  unfold sameL
  have hw : carrier_Carrier_Waiting (true, (fates, (ps, (sent, (lost, now))))) = some (ps.length : Int) := rfl
  have hs : carrier_Carrier_Sent (true, (fates, (ps, (sent, (lost, now))))) = some sent := rfl
  have ho : carrier_Carrier_Lost (true, (fates, (ps, (sent, (lost, now))))) = some lost := rfl
  have hn : carrier_Carrier_Now (true, (fates, (ps, (sent, (lost, now))))) = some now := rfl
  have hb : (b == b) = true := by cases b <;> rfl
  simp (disch := (first | omega | (simp only [List.length_append, List.length_cons, List.length_nil, List.nil_append, List.length_take, List.length_drop]; omega))) only [↓bindO_some, ↓bindO_none, ↓joinO_inl, ↓joinO_inr, ↓joinO_none, ↓outO_some, ↓outO_none, ↓cond_true, ↓cond_false, ↓cond_and, ↓cond_or, ↓cond_not, ↓cond_ite, ↓if_pos, ↓if_neg, ↓if_true, ↓if_false, List.take_length, Nat.le_refl, Bool.not_true, Bool.not_false, if_pos, h1, h2, hb, hw, hs, ho, hn, List.length_map, decide_true]
end Go.Proofs.Ytkhdpjlpahammaa
