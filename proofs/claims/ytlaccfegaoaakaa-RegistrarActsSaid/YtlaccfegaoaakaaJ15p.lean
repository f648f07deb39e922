import Derived.Test.YtlaccfegaoaakaaJ14p
import Derived.Test.YtlaccfegaoaakaaZ8p
set_option linter.unusedVariables false
set_option linter.unusedSimpArgs false
set_option maxRecDepth 100000
set_option maxHeartbeats 4000000
namespace Go.Proofs.Ytlaccfegaoaakaa
open Go.RowKit
theorem enc_ends (now : Int) (a1 a2 : Tx) (a3 : Int) (a4 : Bool) (a5 : List Ct) (a6 : Int) (a7 : Tx) (a8 : Int) (a9 : List Tx) : ∃ E e, registrar_EncodeAct (now, (a1, (a2, (a3, (a4, (a5, (a6, (a7, (a8, a9))))))))) = some (E, e) ∧ encR (now, (a1, (a2, (a3, (a4, (a5, (a6, (a7, (a8, a9))))))))) = some (E, e) ∧ (e = 0 → EOK now a1 a2 a3 a4 a5 a6 a7 a8 a9 ∧ E = ENC now a1 a2 a3 a4 a5 a6 a7 a8 a9 ∧ E.length ≤ 4096) ∧ (EOK now a1 a2 a3 a4 a5 a6 a7 a8 a9 → e = 4 ∨ (e = 0 ∧ E = ENC now a1 a2 a3 a4 a5 a6 a7 a8 a9)) := by
  by_cases h : EOK now a1 a2 a3 a4 a5 a6 a7 a8 a9
  · by_cases g : ((ENC now a1 a2 a3 a4 a5 a6 a7 a8 a9).length : Int) > 4096
    · exact ⟨[], 4, by rw [encP_j h, if_pos g], by rw [encR_j h, if_pos g], fun q => absurd q (by decide), fun _ => .inl rfl⟩
    · exact ⟨_, 0, by rw [encP_j h, if_neg g], by rw [encR_j h, if_neg g], fun _ => ⟨h, rfl, by omega⟩, fun _ => .inr ⟨rfl, rfl⟩⟩
  · exact ⟨[], 2, encP_no h, encR_no h, fun q => absurd q (by decide), fun q => absurd q h⟩
theorem acts_j (now : Int) (a1 a2 : Tx) (a3 : Int) (a4 : Bool) (a5 : List Ct) (a6 : Int) (a7 : Tx) (a8 : Int) (a9 : List Tx) (b : List Int) (hb : By b) : actsLaw (now, ((a1, (a2, (a3, (a4, (a5, (a6, (a7, (a8, a9)))))))), b)) = some true := by
  obtain ⟨f, hf⟩ := (few_j a1 a2 a3 a4 a5 a6 a7 a8 a9).some
  unfold actsLaw
  dsimp only
  rw [hf, bindO_some]
  cases f
  · simp only [Bool.not_false, cond_true]
  rw [Bool.not_true, cond_false]
  by_cases hl : ((b.length : Nat) : Int) > 6000
  · rw [decide_eq_true hl, cond_true]
  rw [decide_eq_false hl, cond_false]
  have hr : Rok b := ⟨hb, by omega⟩
  obtain ⟨E, e, hE, hE', hE0, _⟩ := enc_ends now a1 a2 a3 a4 a5 a6 a7 a8 a9
  rw [hE, bindO_some]
  dsimp only
  rw [hE', bindO_some]
  dsimp only
  rw [decP_j hr, bindO_some, decR_j hr, out_same hb, bindO_some]
  have second : e = 0 → registrar_DecodeAct E = some (now, ((a1, (a2, (a3, (a4, (a5, (a6, (a7, (a8, a9)))))))), 0)) ∧ a5.length ≤ 1000 ∧ a9.length ≤ 1000 := fun h0 => by
    obtain ⟨k1, rfl, k3⟩ := hE0 h0
    refine ⟨dec_enc k1 k3, ?_⟩
    obtain ⟨_, ⟨_, u5, u9⟩, _⟩ := k1.1
    omega
  rcases out_inv hb with ⟨er, her, hO⟩ | ⟨c0, c1, c2, c3, c4, c5, c6, c7, c8, c9, hO, hk, hc⟩
  · rw [hO]
    unfold zR
    dsimp only
    have hs := same_refl [] [] 0 false [] 0 [] 0 [] (by decide) (by decide)
    simp only [↓bindO_some, ↓bindO_none, ↓joinO_inl, ↓joinO_inr, ↓joinO_none, ↓outO_some, ↓outO_none, ↓cond_true, ↓cond_false, ↓cond_and, ↓cond_or, ↓cond_not, ↓cond_ite, ↓if_pos, ↓if_neg, ↓if_true, ↓if_false, List.take_length, Nat.le_refl, Bool.not_true, Bool.not_false, ne_eq, not_true_eq_false, decide_false, hs, her]
    by_cases h0 : e = 0
    · obtain ⟨k1, k5, k9⟩ := second h0
      have hs2 := same_refl a1 a2 a3 a4 a5 a6 a7 a8 a9 k5 k9
      simp only [↓bindO_some, ↓bindO_none, ↓joinO_inl, ↓joinO_inr, ↓joinO_none, ↓outO_some, ↓outO_none, ↓cond_true, ↓cond_false, ↓cond_and, ↓cond_or, ↓cond_not, ↓cond_ite, ↓if_pos, ↓if_neg, ↓if_true, ↓if_false, List.take_length, Nat.le_refl, Bool.not_true, Bool.not_false, h0, k1, hs2, not_true_eq_false, decide_true, decide_false]
    · simp only [↓bindO_some, ↓bindO_none, ↓joinO_inl, ↓joinO_inr, ↓joinO_none, ↓outO_some, ↓outO_none, ↓cond_true, ↓cond_false, ↓cond_and, ↓cond_or, ↓cond_not, ↓cond_ite, ↓if_pos, ↓if_neg, ↓if_true, ↓if_false, List.take_length, Nat.le_refl, Bool.not_true, Bool.not_false, h0, decide_false]
  · rw [hO]
    dsimp only
    have hs : dialtoneref22_SameAct ((c1, (c2, (c3, (c4, (c5, (c6, (c7, (c8, c9)))))))), (c1, (c2, (c3, (c4, (c5, (c6, (c7, (c8, c9))))))))) = some true := by
      obtain ⟨_, ⟨_, u5, u9⟩, _⟩ := hk.1
      exact same_refl c1 c2 c3 c4 c5 c6 c7 c8 c9 (by omega) (by omega)
    obtain ⟨E3, e3, hE3, _, _, h3⟩ := enc_ends c0 c1 c2 c3 c4 c5 c6 c7 c8 c9
    simp only [↓bindO_some, ↓bindO_none, ↓joinO_inl, ↓joinO_inr, ↓joinO_none, ↓outO_some, ↓outO_none, ↓cond_true, ↓cond_false, ↓cond_and, ↓cond_or, ↓cond_not, ↓cond_ite, ↓if_pos, ↓if_neg, ↓if_true, ↓if_false, List.take_length, Nat.le_refl, Bool.not_true, Bool.not_false, ne_eq, not_true_eq_false, decide_false, decide_true, hs]
    rw [hE3, bindO_some]
    dsimp only
    have n4 : ¬ (0 : Int) = 4 := by decide
    have n0 : ¬ (4 : Int) = 0 := by decide
    by_cases h0 : e = 0
    · obtain ⟨k1, k5, k9⟩ := second h0
      have hs2 := same_refl a1 a2 a3 a4 a5 a6 a7 a8 a9 k5 k9
      rcases h3 hk with rfl | ⟨rfl, rfl⟩
      · simp only [↓bindO_some, ↓bindO_none, ↓joinO_inl, ↓joinO_inr, ↓joinO_none, ↓outO_some, ↓outO_none, ↓cond_true, ↓cond_false, ↓cond_and, ↓cond_or, ↓cond_not, ↓cond_ite, ↓if_pos, ↓if_neg, ↓if_true, ↓if_false, List.take_length, Nat.le_refl, Bool.not_true, Bool.not_false, h0, k1, hs2, not_true_eq_false, decide_true, decide_false]
      · simp only [↓bindO_some, ↓bindO_none, ↓joinO_inl, ↓joinO_inr, ↓joinO_none, ↓outO_some, ↓outO_none, ↓cond_true, ↓cond_false, ↓cond_and, ↓cond_or, ↓cond_not, ↓cond_ite, ↓if_pos, ↓if_neg, ↓if_true, ↓if_false, List.take_length, Nat.le_refl, Bool.not_true, Bool.not_false, h0, k1, hs2, hc, n4, not_false_eq_true, not_true_eq_false, decide_true, decide_false]
    · rcases h3 hk with rfl | ⟨rfl, rfl⟩
      · simp only [↓bindO_some, ↓bindO_none, ↓joinO_inl, ↓joinO_inr, ↓joinO_none, ↓outO_some, ↓outO_none, ↓cond_true, ↓cond_false, ↓cond_and, ↓cond_or, ↓cond_not, ↓cond_ite, ↓if_pos, ↓if_neg, ↓if_true, ↓if_false, List.take_length, Nat.le_refl, Bool.not_true, Bool.not_false, h0, not_true_eq_false, decide_false]
      · simp only [↓bindO_some, ↓bindO_none, ↓joinO_inl, ↓joinO_inr, ↓joinO_none, ↓outO_some, ↓outO_none, ↓cond_true, ↓cond_false, ↓cond_and, ↓cond_or, ↓cond_not, ↓cond_ite, ↓if_pos, ↓if_neg, ↓if_true, ↓if_false, List.take_length, Nat.le_refl, Bool.not_true, Bool.not_false, h0, hc, n4, not_false_eq_true, not_true_eq_false, decide_true, decide_false]
theorem acts_main (a : Int × (Rg9 × List Int)) (hw : WfIs [(.tmp 0 false [(.dat (.int .i64))]), (.tmp 1 true [(.dat .str), (.dat .str), (.dat (.int .i64)), (.dat .bool), (.dat (.list (.pair .str (.pair (.int .i64) (.int .i64))))), (.dat (.int .i64)), (.dat .str), (.dat (.int .i64)), (.dat (.list .str))]), (.tmp 2 false [(.dat (.list (.int .u8)))])] a) : actsLaw a = some true := by
  obtain ⟨n, ⟨a1, a2, a3, a4, a5, a6, a7, a8, a9⟩, b⟩ := a
  exact acts_j n a1 a2 a3 a4 a5 a6 a7 a8 a9 b (wfBytes hw.2.2.1.1)
end Go.Proofs.Ytlaccfegaoaakaa
