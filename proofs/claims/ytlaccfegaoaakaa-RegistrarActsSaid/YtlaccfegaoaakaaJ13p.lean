import Derived.Test.YtlaccfegaoaakaaJ12p
set_option linter.unusedVariables false
set_option linter.unusedSimpArgs false
set_option maxRecDepth 100000
set_option maxHeartbeats 4000000
namespace Go.Proofs.Ytlaccfegaoaakaa
open Go.RowKit
theorem val8 {b : List Int} (h : 8 ≤ b.length) (hB : By b) : ∃ x tl, b = x :: tl ∧ ((x ≥ 128 ∧ 9223372036854775808 ≤ val (b.take 8)) ∨ (¬ x ≥ 128 ∧ val (b.take 8) < 9223372036854775808)) := by
  match b, h with
  | x0 :: x1 :: x2 :: x3 :: x4 :: x5 :: x6 :: x7 :: tl, _ =>
    refine ⟨x0, _, rfl, ?_⟩
    have e : val ((x0 :: x1 :: x2 :: x3 :: x4 :: x5 :: x6 :: x7 :: tl).take 8) = (((((((0 * 256 + x0) * 256 + x1) * 256 + x2) * 256 + x3) * 256 + x4) * 256 + x5) * 256 + x6) * 256 + x7 := rfl
    rw [e]
    have b0 := hB x0 (by simp)
    have b1 := hB x1 (by simp)
    have b2 := hB x2 (by simp)
    have b3 := hB x3 (by simp)
    have b4 := hB x4 (by simp)
    have b5 := hB x5 (by simp)
    have b6 := hB x6 (by simp)
    have b7 := hB x7 (by simp)
    by_cases g : x0 ≥ 128
    · exact .inl ⟨g, by omega⟩
    · exact .inr ⟨g, by omega⟩
open Classical in
theorem decR_j {b : List Int} (hb : Rok b) : dialtoneref22_DecodeAct b = some (OUT sgR b) := by
  rw [decR_eq]
  by_cases hl : b.length < 8
  · have hz : parse b = none := by unfold parse; rw [show pnum 8 b = none from if_pos hl]; rfl
    have g : ¬ ((b.length : Nat) : Int) ≥ 8 := by omega
    have g8 : ∀ {γ : Type}, wrz8 (γ := γ) b = some (.inl (0, (b, true))) := fun {γ} => by
      have q : (8 : Int) > (b.length : Int) := by omega
      unfold wrz8; simp only [↓bindO_some, ↓bindO_none, ↓joinO_inl, ↓joinO_inr, ↓joinO_none, ↓outO_some, ↓outO_none, ↓cond_true, ↓cond_false, ↓cond_and, ↓cond_or, ↓cond_not, ↓cond_ite, ↓if_pos, ↓if_neg, ↓if_true, ↓if_false, List.take_length, Nat.le_refl, Bool.not_true, Bool.not_false, q, decide_true, vlR_0]
    rw [OUT_none hz]
    simp only [↓bindO_some, ↓bindO_none, ↓joinO_inl, ↓joinO_inr, ↓joinO_none, ↓outO_some, ↓outO_none, ↓cond_true, ↓cond_false, ↓cond_and, ↓cond_or, ↓cond_not, ↓cond_ite, ↓if_pos, ↓if_neg, ↓if_true, ↓if_false, List.take_length, Nat.le_refl, Bool.not_true, Bool.not_false, g, decide_false, g8, wrn1_t, wrn2_t, wrs4_t, wrt_t, wrc_0, wrp_0]
    first | done | rfl
  have g : ((b.length : Nat) : Int) ≥ 8 := by omega
  obtain ⟨x2, tl, hx, hx8⟩ := val8 (show 8 ≤ b.length by omega) hb.1
  have hb0 : b[0]? = some x2 := by rw [hx]; rfl
  have h0 : pnum 8 b = some (val (b.take 8), b.drop 8) := if_neg hl
  obtain ⟨o0, b0⟩ := pnum_rok h0 hb
  rw [pow8] at b0
  have gg : (0 : Int) ≤ 0 ∧ (0 : Int) < ((b.length : Nat) : Int) := by omega
  obtain ⟨w0, g0, hw⟩ : ∃ w0, (∀ {γ : Type}, wre8 (γ := γ) b x2 = some (.inl (w0, (b.drop 8, false)))) ∧ ((x2 ≥ 128 ∧ 9223372036854775808 ≤ val (b.take 8)) ∨ (¬ x2 ≥ 128 ∧ w0 = val (b.take 8))) := by
    have q : ¬ (8 : Int) > (b.length : Int) := by omega
    rcases hx8 with ⟨e1, e2⟩ | ⟨e1, e2⟩
    · refine ⟨0, fun {γ} => ?_, .inl ⟨e1, e2⟩⟩
      unfold wre8
      simp (disch := (first | omega | (simp only [List.length_append, List.length_cons, List.length_nil, List.nil_append, List.length_take, List.length_drop]; omega))) only [↓bindO_some, ↓bindO_none, ↓joinO_inl, ↓joinO_inr, ↓joinO_none, ↓outO_some, ↓outO_none, ↓cond_true, ↓cond_false, ↓cond_and, ↓cond_or, ↓cond_not, ↓cond_ite, ↓if_pos, ↓if_neg, ↓if_true, ↓if_false, List.take_length, Nat.le_refl, Bool.not_true, Bool.not_false, e1, decide_true, q, decide_false, if_pos]
    · refine ⟨_, fun {γ} => ?_, .inr ⟨e1, rfl⟩⟩
      have hv : ∀ δ, loopO (vlR (γ := δ) (b.take 8)) (0, 0) = some (.inl (val (b.take 8))) := fun δ => vlR_j _ (fun x hx => hb.1 x (List.mem_of_mem_take hx)) (by rw [List.length_take]; omega) e2
      unfold wre8
      simp (disch := (first | omega | (simp only [List.length_append, List.length_cons, List.length_nil, List.nil_append, List.length_take, List.length_drop]; omega))) only [↓bindO_some, ↓bindO_none, ↓joinO_inl, ↓joinO_inr, ↓joinO_none, ↓outO_some, ↓outO_none, ↓cond_true, ↓cond_false, ↓cond_and, ↓cond_or, ↓cond_not, ↓cond_ite, ↓if_pos, ↓if_neg, ↓if_true, ↓if_false, List.take_length, Nat.le_refl, Bool.not_true, Bool.not_false, e1, decide_false, q, if_pos, hv]
  rw [decide_eq_true g, cond_true, decide_eq_true gg, cond_true, hb0, bindO_some, g0, joinO_inl]
  dsimp only
  clear g0 hx8
  revert h0 o0 b0 hw
  generalize val (b.take 8) = v0
  generalize b.drop 8 = r0
  intro h0 o0 b0 hw
  rcases tz o0 with ⟨t1, r1, c1, s1, h1, g1, w1, o1⟩ | ⟨h1, c1, s1, e1, r1, g1, w1⟩
  rotate_left
  · rw [g1, joinO_inl]
    dsimp only
    rw [w1, joinO_inl]
    dsimp only
    have hz : parse b = none := by unfold parse; simp only [h0, h1, Option.bind_some, Option.bind_none]
    rw [OUT_none hz]
    simp only [↓bindO_some, ↓bindO_none, ↓joinO_inl, ↓joinO_inr, ↓joinO_none, ↓outO_some, ↓outO_none, ↓cond_true, ↓cond_false, ↓cond_and, ↓cond_or, ↓cond_not, ↓cond_ite, ↓if_pos, ↓if_neg, ↓if_true, ↓if_false, List.take_length, Nat.le_refl, Bool.not_true, Bool.not_false, wrn1_t, wrn2_t, wrs4_t, wrt_t, wrc_0, wrp_0]
    first | done | rfl
  rw [g1, joinO_inl]
  dsimp only
  rw [w1, joinO_inl]
  dsimp only
  rcases tz o1 with ⟨t2, r2, c2, s2, h2, g2, w2, o2⟩ | ⟨h2, c2, s2, e2, r2, g2, w2⟩
  rotate_left
  · rw [g2, joinO_inl]
    dsimp only
    rw [w2, joinO_inl]
    dsimp only
    have hz : parse b = none := by unfold parse; simp only [h0, h1, h2, Option.bind_some, Option.bind_none]
    rw [OUT_none hz]
    simp only [↓bindO_some, ↓bindO_none, ↓joinO_inl, ↓joinO_inr, ↓joinO_none, ↓outO_some, ↓outO_none, ↓cond_true, ↓cond_false, ↓cond_and, ↓cond_or, ↓cond_not, ↓cond_ite, ↓if_pos, ↓if_neg, ↓if_true, ↓if_false, List.take_length, Nat.le_refl, Bool.not_true, Bool.not_false, wrn1_t, wrn2_t, wrs4_t, wrt_t, wrc_0, wrp_0]
    first | done | rfl
  rw [g2, joinO_inl]
  dsimp only
  rw [w2, joinO_inl]
  dsimp only
  rcases sz4 o2 with ⟨v3, r3, h3, g3, o3, b3⟩ | ⟨h3, g3⟩
  rotate_left
  · rw [g3, joinO_inl]
    dsimp only
    have hz : parse b = none := by unfold parse; simp only [h0, h1, h2, h3, Option.bind_some, Option.bind_none]
    rw [OUT_none hz]
    simp only [↓bindO_some, ↓bindO_none, ↓joinO_inl, ↓joinO_inr, ↓joinO_none, ↓outO_some, ↓outO_none, ↓cond_true, ↓cond_false, ↓cond_and, ↓cond_or, ↓cond_not, ↓cond_ite, ↓if_pos, ↓if_neg, ↓if_true, ↓if_false, List.take_length, Nat.le_refl, Bool.not_true, Bool.not_false, wrn1_t, wrn2_t, wrs4_t, wrt_t, wrc_0, wrp_0]
    first | done | rfl
  rw [g3, joinO_inl]
  dsimp only
  rcases nz1 o3 with ⟨v4, r4, h4, g4, o4, b4⟩ | ⟨h4, g4⟩
  rotate_left
  · rw [g4, joinO_inl]
    dsimp only
    have hz : parse b = none := by unfold parse; simp only [h0, h1, h2, h3, h4, Option.bind_some, Option.bind_none]
    rw [OUT_none hz]
    simp only [↓bindO_some, ↓bindO_none, ↓joinO_inl, ↓joinO_inr, ↓joinO_none, ↓outO_some, ↓outO_none, ↓cond_true, ↓cond_false, ↓cond_and, ↓cond_or, ↓cond_not, ↓cond_ite, ↓if_pos, ↓if_neg, ↓if_true, ↓if_false, List.take_length, Nat.le_refl, Bool.not_true, Bool.not_false, wrn1_t, wrn2_t, wrs4_t, wrt_t, wrc_0, wrp_0]
    first | done | rfl
  rw [g4, joinO_inl]
  dsimp only
  rcases sz4 o4 with ⟨v5, r5, h5, g5, o5, b5⟩ | ⟨h5, g5⟩
  rotate_left
  · rw [g5, joinO_inl]
    dsimp only
    have hz : parse b = none := by unfold parse; simp only [h0, h1, h2, h3, h4, h5, Option.bind_some, Option.bind_none]
    rw [OUT_none hz]
    simp only [↓bindO_some, ↓bindO_none, ↓joinO_inl, ↓joinO_inr, ↓joinO_none, ↓outO_some, ↓outO_none, ↓cond_true, ↓cond_false, ↓cond_and, ↓cond_or, ↓cond_not, ↓cond_ite, ↓if_pos, ↓if_neg, ↓if_true, ↓if_false, List.take_length, Nat.le_refl, Bool.not_true, Bool.not_false, wrn1_t, wrn2_t, wrs4_t, wrt_t, wrc_0, wrp_0]
    first | done | rfl
  rw [g5, joinO_inl]
  dsimp only
  rcases tz o5 with ⟨t6, r6, c6, s6, h6, g6, w6, o6⟩ | ⟨h6, c6, s6, e6, r6, g6, w6⟩
  rotate_left
  · rw [g6, joinO_inl]
    dsimp only
    rw [w6, joinO_inl]
    dsimp only
    have hz : parse b = none := by unfold parse; simp only [h0, h1, h2, h3, h4, h5, h6, Option.bind_some, Option.bind_none]
    rw [OUT_none hz]
    simp only [↓bindO_some, ↓bindO_none, ↓joinO_inl, ↓joinO_inr, ↓joinO_none, ↓outO_some, ↓outO_none, ↓cond_true, ↓cond_false, ↓cond_and, ↓cond_or, ↓cond_not, ↓cond_ite, ↓if_pos, ↓if_neg, ↓if_true, ↓if_false, List.take_length, Nat.le_refl, Bool.not_true, Bool.not_false, wrn1_t, wrn2_t, wrs4_t, wrt_t, wrc_0, wrp_0]
    first | done | rfl
  rw [g6, joinO_inl]
  dsimp only
  rw [w6, joinO_inl]
  dsimp only
  rcases sz4 o6 with ⟨v7, r7, h7, g7, o7, b7⟩ | ⟨h7, g7⟩
  rotate_left
  · rw [g7, joinO_inl]
    dsimp only
    have hz : parse b = none := by unfold parse; simp only [h0, h1, h2, h3, h4, h5, h6, h7, Option.bind_some, Option.bind_none]
    rw [OUT_none hz]
    simp only [↓bindO_some, ↓bindO_none, ↓joinO_inl, ↓joinO_inr, ↓joinO_none, ↓outO_some, ↓outO_none, ↓cond_true, ↓cond_false, ↓cond_and, ↓cond_or, ↓cond_not, ↓cond_ite, ↓if_pos, ↓if_neg, ↓if_true, ↓if_false, List.take_length, Nat.le_refl, Bool.not_true, Bool.not_false, wrn1_t, wrn2_t, wrs4_t, wrt_t, wrc_0, wrp_0]
    first | done | rfl
  rw [g7, joinO_inl]
  dsimp only
  rcases nz1 o7 with ⟨v8, r8, h8, g8, o8, b8⟩ | ⟨h8, g8⟩
  rotate_left
  · rw [g8, joinO_inl]
    dsimp only
    have hz : parse b = none := by unfold parse; simp only [h0, h1, h2, h3, h4, h5, h6, h7, h8, Option.bind_some, Option.bind_none]
    rw [OUT_none hz]
    simp only [↓bindO_some, ↓bindO_none, ↓joinO_inl, ↓joinO_inr, ↓joinO_none, ↓outO_some, ↓outO_none, ↓cond_true, ↓cond_false, ↓cond_and, ↓cond_or, ↓cond_not, ↓cond_ite, ↓if_pos, ↓if_neg, ↓if_true, ↓if_false, List.take_length, Nat.le_refl, Bool.not_true, Bool.not_false, wrn1_t, wrn2_t, wrs4_t, wrt_t, wrc_0, wrp_0]
    first | done | rfl
  rw [g8, joinO_inl]
  dsimp only
  have n8 : v8 = ((v8.toNat : Nat) : Int) := by omega
  rcases wrc_j (γ := Int × (Rg9 × Int)) v8.toNat (by omega) (bytesU t1) (bytesU t2) (sgR v3) (decide (v4 = 1)) (sgR v5) (bytesU t6) (sgR v7) o8 with ⟨l9, r9, h9, o9, e9⟩ | ⟨h9, l9, r9, e9⟩
  rotate_left
  · rw [← n8] at e9
    rw [e9, joinO_inl]
    dsimp only
    have hz : parse b = none := by unfold parse; simp only [h0, h1, h2, h3, h4, h5, h6, h7, h8, h9, Option.bind_some, Option.bind_none]
    rw [OUT_none hz]
    simp only [↓bindO_some, ↓bindO_none, ↓joinO_inl, ↓joinO_inr, ↓joinO_none, ↓outO_some, ↓outO_none, ↓cond_true, ↓cond_false, ↓cond_and, ↓cond_or, ↓cond_not, ↓cond_ite, ↓if_pos, ↓if_neg, ↓if_true, ↓if_false, List.take_length, Nat.le_refl, Bool.not_true, Bool.not_false, wrn1_t, wrn2_t, wrs4_t, wrt_t, wrc_0, wrp_0]
    first | done | rfl
  rw [← n8] at e9
  rw [e9, joinO_inl]
  dsimp only
  rcases nz1 o9 with ⟨v10, r10, h10, g10, o10, b10⟩ | ⟨h10, g10⟩
  rotate_left
  · rw [g10, joinO_inl]
    dsimp only
    have hz : parse b = none := by unfold parse; simp only [h0, h1, h2, h3, h4, h5, h6, h7, h8, h9, h10, Option.bind_some, Option.bind_none]
    rw [OUT_none hz]
    simp only [↓bindO_some, ↓bindO_none, ↓joinO_inl, ↓joinO_inr, ↓joinO_none, ↓outO_some, ↓outO_none, ↓cond_true, ↓cond_false, ↓cond_and, ↓cond_or, ↓cond_not, ↓cond_ite, ↓if_pos, ↓if_neg, ↓if_true, ↓if_false, List.take_length, Nat.le_refl, Bool.not_true, Bool.not_false, wrn1_t, wrn2_t, wrs4_t, wrt_t, wrc_0, wrp_0]
    first | done | rfl
  rw [g10, joinO_inl]
  dsimp only
  simp only [Nat.le_refl, decide_true, cond_true, List.take_length]
  have n10 : v10 = ((v10.toNat : Nat) : Int) := by omega
  rcases wrp_j (γ := Int × (Rg9 × Int)) v10.toNat (by omega) (bytesU t1) (bytesU t2) (sgR v3) (decide (v4 = 1)) (l9.map (mcS sgR)) (sgR v5) (bytesU t6) (sgR v7) o10 with ⟨l11, r11, h11, o11, e11⟩ | ⟨h11, l11, r11, e11⟩
  rotate_left
  · rw [← n10] at e11
    rw [e11, joinO_inl]
    dsimp only
    have hz : parse b = none := by unfold parse; simp only [h0, h1, h2, h3, h4, h5, h6, h7, h8, h9, h10, h11, Option.bind_some, Option.bind_none]
    rw [OUT_none hz]
    simp only [↓bindO_some, ↓bindO_none, ↓joinO_inl, ↓joinO_inr, ↓joinO_none, ↓outO_some, ↓outO_none, ↓cond_true, ↓cond_false, ↓cond_and, ↓cond_or, ↓cond_not, ↓cond_ite, ↓if_pos, ↓if_neg, ↓if_true, ↓if_false, List.take_length, Nat.le_refl, Bool.not_true, Bool.not_false, wrn1_t, wrn2_t, wrs4_t, wrt_t, wrc_0, wrp_0]
    first | done | rfl
  rw [← n10] at e11
  rw [e11, joinO_inl]
  dsimp only
  have hz : parse b = some ⟨v0, t1, t2, v3, v4, v5, t6, v7, l9, l11, r11⟩ := by unfold parse; simp only [h0, h1, h2, h3, h4, h5, h6, h7, h8, h9, h10, h11, Option.bind_some]
  rw [cond_false]
  by_cases z1 : r11 = []
  rotate_left
  · have z1n : 0 < r11.length := List.length_pos_iff.2 z1
    rw [OUT_bad (sg := sgR) hz (fun g => z1 g.1), show decide (((r11.length : Nat) : Int) > 0) = true from decide_eq_true (by omega)]
    rfl
  rw [show decide (((r11.length : Nat) : Int) > 0) = false from decide_eq_false (by rw [z1]; decide), cond_false]
  by_cases z2 : v4 > 1
  · rw [OUT_bad (sg := sgR) hz (fun g => by have := g.2.1; simp only at this; omega), decide_eq_true z2]
    rfl
  rw [decide_eq_false z2, cond_false]
  rcases hw with ⟨z0, hw⟩ | ⟨z0, hw⟩
  · rw [OUT_bad (sg := sgR) hz (fun g => by have := g.2.2.1; simp only at this; omega), decide_eq_true z0]
    rfl
  rw [decide_eq_false z0, cond_false]
  subst hw
  simp only [Nat.le_refl, decide_true, Bool.and_self, cond_true, List.take_length]
  rw [formR_b]
  by_cases z4 : FM (bytesU t1) (bytesU t2) (sgR v3) (decide (v4 = 1)) (l9.map (mcS sgR)) (sgR v5) (bytesU t6) (sgR v7) (l11.map bt)
  rotate_left
  · rw [OUT_bad (sg := sgR) hz (fun g => z4 g.2.2.2), @decide_eq_false _ _ z4]
    rfl
  rw [@decide_eq_true _ _ z4, Bool.not_true, cond_false]
  by_cases z3 : w0 > 1099511627776
  · rw [OUT_bad (sg := sgR) hz (fun g => by have := g.2.2.1; simp only at this; omega), decide_eq_true z3]
    rfl
  rw [decide_eq_false z3, cond_false]
  rw [OUT_good (sg := sgR) hz ⟨z1, by simp only; omega, by simp only; omega, z4⟩]
  rfl
theorem sg_eq {n : Int} (h : 0 ≤ n ∧ n < 4294967296) (g : NO (sgP n) ∨ NO (sgR n)) : sgP n = sgR n := by
  unfold sgP sgR at *
  split at g <;> split at g <;> (try split) <;> omega
end Go.Proofs.Ytlaccfegaoaakaa
