/- Chapter 37, plain: the first looks, and the laws of Find, Times, Pieces, Cost. -/
import Derived.Test.YtbckoncbimljeaaJ5
import Derived.Test.YtbckoncbimljeaaZ2
set_option linter.unusedVariables false
set_option linter.unusedSimpArgs false
set_option maxRecDepth 100000
namespace Go.Proofs.Ytbckoncbimljeaa
open Go.RowKit

/-- The rate of the examples. -/
abbrev rtP : List Pr1 := [((31, (480, 1080)), (1200, 200)), ((127, (0, 1440)), (600, 100))]
abbrev rt : Ra := ([52, 57], (500, (60, (10, rtP))))
theorem lt2 {i : Nat} (h : i < 2) : i = 0 ∨ i = 1 := by omega
theorem rv_rt : RV rt := by
  refine ⟨⟨by decide, by decide, by decide, by decide⟩, fun i hi => ?_, by decide, fun i hi => ?_, by decide⟩
  · rcases lt2 (i := i) hi with rfl | rfl <;> decide
  · rcases lt2 (i := i) hi with rfl | rfl <;> decide
theorem tv_rt : TV [rt] 0 := by
  refine ⟨by decide, fun i hi => ?_⟩
  obtain rfl : i = 0 := by have : i < 1 := hi; omega
  exact ⟨rv_rt, fun k hk => by omega⟩
theorem find_rt1 : rating_Find (([rt], 0), [52, 57, 51, 48]) = some (0, true) := by
  obtain ⟨r, e1, _, h, _⟩ := find_same [rt] 0 [52, 57, 51, 48]
  have k : FX [rt] [52, 57, 51, 48] (((0 : Nat) : Int), true) := .inr ⟨0, by decide, rfl, by decide, fun j hj _ => by
    obtain rfl : j = 0 := by have : j < 1 := hj; omega
    exact Nat.le_refl _⟩
  rw [e1, (h tv_rt).uniq tv_rt k]; rfl
theorem find_rt2 : rating_Find (([rt], 0), [52, 51]) = some (0, false) := by
  obtain ⟨r, e1, _, h, _⟩ := find_same [rt] 0 [52, 51]
  have k : FX [rt] [52, 51] (0, false) := .inl ⟨rfl, fun j hj => by
    obtain rfl : j = 0 := by have : j < 1 := hj; omega
    decide⟩
  rw [e1, (h tv_rt).uniq tv_rt k]
theorem costP_no {l : List Ra} {f a b : Int} {num : List UInt8} (hv : TV l f) (hs : Spn a b) (h1 : SE a b ≤ 1000000) (hF : rating_Find ((l, f), num) = some (0, false)) : rating_Cost ((l, f), (num, (a, b))) = some (0, 8) := by
  have w1 : 0 ≤ a ∧ a ≤ 281474976710656 := ⟨hs.1, Int.le_trans hs.2.1 hs.2.2⟩
  have w2 : a ≤ b ∧ b ≤ 281474976710656 := hs.2
  unfold rating_Cost
  simp (disch := omega) only [↓bindO_some, ↓bindO_none, ↓joinO_inl, ↓joinO_inr, ↓joinO_none, ↓outO_some, ↓outO_none, ↓cond_true, ↓cond_false, ↓cond_and, ↓cond_or, ↓cond_not, ↓cond_ite, ↓if_pos, ↓if_neg, ↓if_true, ↓if_false, List.take_length, Nat.le_refl, Bool.not_true, Bool.not_false, validP_t hv, within_b, w1, w2, and_self, decide_true, secondsP_j, if_neg, hF]
theorem costP_rg {l : List Ra} {f a b : Int} {num : List UInt8} (hv : TV l f) (hs : ¬ Spn a b) : rating_Cost ((l, f), (num, (a, b))) = some (0, 3) := by
  unfold rating_Cost
  by_cases w1 : 0 ≤ a ∧ a ≤ 281474976710656
  · have w2 : ¬ (a ≤ b ∧ b ≤ 281474976710656) := fun k => hs ⟨w1.1, k⟩
    simp (disch := omega) only [↓bindO_some, ↓bindO_none, ↓joinO_inl, ↓joinO_inr, ↓joinO_none, ↓outO_some, ↓outO_none, ↓cond_true, ↓cond_false, ↓cond_and, ↓cond_or, ↓cond_not, ↓cond_ite, ↓if_pos, ↓if_neg, ↓if_true, ↓if_false, List.take_length, Nat.le_refl, Bool.not_true, Bool.not_false, validP_t hv, within_b, w1, w2, and_self, decide_true, decide_false]
  · simp (disch := omega) only [↓bindO_some, ↓bindO_none, ↓joinO_inl, ↓joinO_inr, ↓joinO_none, ↓outO_some, ↓outO_none, ↓cond_true, ↓cond_false, ↓cond_and, ↓cond_or, ↓cond_not, ↓cond_ite, ↓if_pos, ↓if_neg, ↓if_true, ↓if_false, List.take_length, Nat.le_refl, Bool.not_true, Bool.not_false, validP_t hv, within_b, w1, decide_false]
theorem px_lit {l : List Pr1} {a : Int} (h : RVl l) (ha : 0 ≤ a ∧ a ≤ 4000000000000000000) (i : Nat) (hx : PX l a i) : px l a = (i : Int) := (px_j h ha).2.uniq hx
theorem rt0 (a : Int) (ha : 0 ≤ a ∧ a ≤ 4000000000000000000) (hc : CT ((31, (480, 1080)), (1200, 200)) a) : px rtP a = 0 :=
  px_lit rv_rt.2.2 ha 0 (.inr ⟨0, by decide, rfl, hc, fun j hj => by omega⟩)
theorem rt1 (a : Int) (ha : 0 ≤ a ∧ a ≤ 4000000000000000000) (hc : ¬ CT ((31, (480, 1080)), (1200, 200)) a) : px rtP a = 1 :=
  px_lit rv_rt.2.2 ha 1 (.inr ⟨1, by decide, rfl, last_ct (by decide) a, fun j hj => by
    obtain rfl : j = 0 := by omega
    exact hc⟩)
theorem cv_rt {a s v x y : Int} (hp : PN 0 60 10 s = 2) (h0 : prc rtP (a + 0) 0 = x) (h1 : prc rtP (a + 60000) 1 = y) (hv : 500 + x + y = v) : CV rt 0 a s = v := by
  unfold CV
  show (if PN 0 60 10 s = 0 then 0 else CU rtP 500 (MO a 0 60 10) (PN 0 60 10 s).toNat) = v
  rw [hp, if_neg (by decide)]
  show 500 + prc rtP (a + 0) 0 + prc rtP (a + 60000) 1 = v
  rw [h0, h1]; exact hv
theorem prc_00 {a : Int} (h : px rtP a = 0) : prc rtP a 0 = 1200 ∧ prc rtP a 1 = 200 := by unfold prc; rw [h]; exact ⟨rfl, rfl⟩
theorem prc_11 {a : Int} (h : px rtP a = 1) : prc rtP a 0 = 600 ∧ prc rtP a 1 = 100 := by unfold prc; rw [h]; exact ⟨rfl, rfl⟩
theorem c_a : rating_Cost (([rt], 0), ([52, 57, 51, 48], (28800000, 28865000))) = some (1900, 0) := by
  rw [costP_v tv_rt (by decide) (by decide) (i := 0) (by decide) find_rt1]
  exact congrArg (fun x => some (x, (0 : Int))) (cv_rt (by decide) (prc_00 (rt0 _ (by decide) (by decide +kernel))).1 (prc_00 (rt0 _ (by decide) (by decide +kernel))).2 rfl)
theorem c_b : rating_Cost (([rt], 0), ([52, 57, 51, 48], (28770000, 28835000))) = some (1300, 0) := by
  rw [costP_v tv_rt (by decide) (by decide) (i := 0) (by decide) find_rt1]
  exact congrArg (fun x => some (x, (0 : Int))) (cv_rt (by decide) (prc_11 (rt1 _ (by decide) (by decide +kernel))).1 (prc_00 (rt0 _ (by decide) (by decide +kernel))).2 rfl)
theorem c_c : rating_Cost (([rt], 0), ([52, 51], (0, 1))) = some (0, 8) := costP_no tv_rt (by decide) (by decide) find_rt2
theorem c_d : rating_Cost (([rt], 0), ([52, 57, 51, 48], (460800000, 460865000))) = some (1200, 0) := by
  rw [costP_v tv_rt (by decide) (by decide) (i := 0) (by decide) find_rt1]
  exact congrArg (fun x => some (x, (0 : Int))) (cv_rt (by decide) (prc_11 (rt1 _ (by decide) (by decide +kernel))).1 (prc_11 (rt1 _ (by decide) (by decide +kernel))).2 rfl)
theorem c_e : rating_Cost (([rt], 0), ([52, 57, 51, 48], (5, 5))) = some (0, 0) := by
  rw [costP_v tv_rt (by decide) (by decide) (i := 0) (by decide) find_rt1]
  exact congrArg (fun x => some (x, (0 : Int))) (by unfold CV; exact if_pos (by decide))
theorem c_f : rating_Cost (([rt], 0), ([52, 57, 51, 48], (2, 1))) = some (0, 3) := costP_rg tv_rt (by decide)
theorem se_a : SE 500 1501 = 2 := by decide
/-- The first looks. -/
theorem lives_j : dialtonelaw37_lives () = some true := by
  unfold dialtonelaw37_lives dialtonelaw37_rate
  simp only [↓bindO_some, ↓bindO_none, ↓joinO_inl, ↓joinO_inr, ↓joinO_none, ↓outO_some, ↓outO_none, ↓cond_true, ↓cond_false, ↓cond_and, ↓cond_or, ↓cond_not, ↓cond_ite, ↓if_pos, ↓if_neg, ↓if_true, ↓if_false, List.take_length, Nat.le_refl, Bool.not_true, Bool.not_false, c_a, c_b, c_c, validP_t tv_rt, secondsP_j, se_a, decide_true]
theorem lives_b {β : Type} (f : Bool → Option β) : bindO (dialtonelaw37_lives ()) f = f true := by rw [lives_j]; rfl
theorem finds_j (a1 : List Ra) (a2 : Int) (a3 : List UInt8) : dialtonelaw37_RatingFinds ((a1, a2), a3) = some true := by
  obtain ⟨b, hb⟩ := few_j a1 a2
  obtain ⟨⟨x, y⟩, e1, e2, _⟩ := find_same a1 a2 a3
  have hv : ∃ v, rating_Valid (a1, a2) = some v := by
    rcases validP_j a1 a2 with ⟨_, e⟩ | ⟨_, e⟩ <;> exact ⟨_, e⟩
  obtain ⟨v, hv⟩ := hv
  unfold dialtonelaw37_RatingFinds
  simp only [↓bindO_some, ↓bindO_none, ↓joinO_inl, ↓joinO_inr, ↓joinO_none, ↓outO_some, ↓outO_none, ↓cond_true, ↓cond_false, ↓cond_and, ↓cond_or, ↓cond_not, ↓cond_ite, ↓if_pos, ↓if_neg, ↓if_true, ↓if_false, List.take_length, Nat.le_refl, Bool.not_true, Bool.not_false, hb, lives_b, e1, e2, valid_same, hv, decide_true, beq_self_eq_true]
  cases b <;> rfl
theorem times_j (a1 a2 : Int) (r : Ra) (a8 : Int) : dialtonelaw37_RatingTimes (a1, (a2, ((r.1, (r.2.1, (r.2.2.1, (r.2.2.2.1, r.2.2.2.2)))), a8))) = some true := by
  obtain ⟨b, hb⟩ := few_j [(r.1, (r.2.1, (r.2.2.1, (r.2.2.2.1, r.2.2.2.2))))] 0
  obtain ⟨⟨x, y⟩, e1, e2⟩ := priceAt_same r a8
  unfold dialtonelaw37_RatingTimes
  simp only [↓bindO_some, ↓bindO_none, ↓joinO_inl, ↓joinO_inr, ↓joinO_none, ↓outO_some, ↓outO_none, ↓cond_true, ↓cond_false, ↓cond_and, ↓cond_or, ↓cond_not, ↓cond_ite, ↓if_pos, ↓if_neg, ↓if_true, ↓if_false, List.take_length, Nat.le_refl, Bool.not_true, Bool.not_false, hb, lives_b, e1, e2, secondsP_j, secondsR_j, decide_true, beq_self_eq_true]
  cases b <;> rfl
theorem pieces_j (r : Ra) (a6 a7 : Int) : dialtonelaw37_RatingPieces ((r.1, (r.2.1, (r.2.2.1, (r.2.2.2.1, r.2.2.2.2)))), (a6, a7)) = some true := by
  obtain ⟨b, hb⟩ := few_j [(r.1, (r.2.1, (r.2.2.1, (r.2.2.2.1, r.2.2.2.2))))] 0
  obtain ⟨x, e1, e2⟩ := pieces_same r a6 a7
  unfold dialtonelaw37_RatingPieces
  simp only [↓bindO_some, ↓bindO_none, ↓joinO_inl, ↓joinO_inr, ↓joinO_none, ↓outO_some, ↓outO_none, ↓cond_true, ↓cond_false, ↓cond_and, ↓cond_or, ↓cond_not, ↓cond_ite, ↓if_pos, ↓if_neg, ↓if_true, ↓if_false, List.take_length, Nat.le_refl, Bool.not_true, Bool.not_false, hb, lives_b, e1, e2, decide_true]
  cases b <;> rfl
theorem costs_j (a1 : List Ra) (a2 : Int) (a3 : List UInt8) (a4 a5 : Int) : dialtonelaw37_RatingCosts ((a1, a2), (a3, (a4, a5))) = some true := by
  obtain ⟨b, hb⟩ := few_j a1 a2
  obtain ⟨⟨x, y⟩, e1, e2⟩ := cost_same a1 a2 a3 a4 a5
  unfold dialtonelaw37_RatingCosts
  simp only [↓bindO_some, ↓bindO_none, ↓joinO_inl, ↓joinO_inr, ↓joinO_none, ↓outO_some, ↓outO_none, ↓cond_true, ↓cond_false, ↓cond_and, ↓cond_or, ↓cond_not, ↓cond_ite, ↓if_pos, ↓if_neg, ↓if_true, ↓if_false, List.take_length, Nat.le_refl, Bool.not_true, Bool.not_false, hb, lives_b, e1, e2, decide_true]
  cases b <;> rfl
theorem known_j : dialtonelaw37_RatingKnown () = some true := by
  have p := piecesP_j (r := rt) (f := 0) (s := 60) rv_rt (by decide) (by decide)
  have p1 := piecesP_j (r := rt) (f := 0) (s := 61) rv_rt (by decide) (by decide)
  have p2 := piecesP_j (r := rt) (f := 0) (s := 70) rv_rt (by decide) (by decide)
  have p3 := piecesP_j (r := rt) (f := 0) (s := 71) rv_rt (by decide) (by decide)
  have p4 := piecesP_j (r := rt) (f := 5) (s := 5) rv_rt (by decide) (by decide)
  have p5 := piecesP_j (r := rt) (f := 5) (s := 66) rv_rt (by decide) (by decide)
  rw [show PN 0 rt.2.2.1 rt.2.2.2.1 60 = 1 by decide] at p
  rw [show PN 0 rt.2.2.1 rt.2.2.2.1 61 = 2 by decide] at p1
  rw [show PN 0 rt.2.2.1 rt.2.2.2.1 70 = 2 by decide] at p2
  rw [show PN 0 rt.2.2.1 rt.2.2.2.1 71 = 3 by decide] at p3
  rw [show PN 5 rt.2.2.1 rt.2.2.2.1 5 = 0 by decide] at p4
  rw [show PN 5 rt.2.2.1 rt.2.2.2.1 66 = 2 by decide] at p5
  have s1 : SE 0 1 = 1 := by decide
  have s2 : SE 0 1000 = 1 := by decide
  unfold dialtonelaw37_RatingKnown dialtonelaw37_rate
  simp only [↓bindO_some, ↓bindO_none, ↓joinO_inl, ↓joinO_inr, ↓joinO_none, ↓outO_some, ↓outO_none, ↓cond_true, ↓cond_false, ↓cond_and, ↓cond_or, ↓cond_not, ↓cond_ite, ↓if_pos, ↓if_neg, ↓if_true, ↓if_false, List.take_length, Nat.le_refl, Bool.not_true, Bool.not_false, c_d, c_e, c_f, secondsP_j, s1, s2, lives_b, p, p1, p2, p3, p4, p5, ne_eq, not_true, decide_true, decide_false]
abbrev Uty : U := .pair .str (.pair (.int .i64) (.pair (.int .i64) (.pair (.int .i64) (.list (.pair (.pair (.int .u8) (.pair (.int .i64) (.int .i64))) (.pair (.int .i64) (.int .i64)))))))
theorem finds_main (a : (List Ra × Int) × List UInt8) (_ : WfIs [(.tmp 0 true [(.dat (.list Uty)), (.dat (.int .i64))]), (.tmp 1 false [(.dat .str)])] a) : dialtonelaw37_RatingFinds a = some true := finds_j a.1.1 a.1.2 a.2
theorem times_main (a : Int × (Int × (Ra × Int))) (_ : WfIs [(.tmp 0 false [(.dat (.int .i64))]), (.tmp 1 false [(.dat (.int .i64))]), (.tmp 2 true [(.dat .str), (.dat (.int .i64)), (.dat (.int .i64)), (.dat (.int .i64)), (.dat (.list (.pair (.pair (.int .u8) (.pair (.int .i64) (.int .i64))) (.pair (.int .i64) (.int .i64)))))]), (.tmp 3 false [(.dat (.int .i64))])] a) : dialtonelaw37_RatingTimes a = some true := times_j a.1 a.2.1 a.2.2.1 a.2.2.2
theorem pieces_main (a : Ra × (Int × Int)) (_ : WfIs [(.tmp 0 true [(.dat .str), (.dat (.int .i64)), (.dat (.int .i64)), (.dat (.int .i64)), (.dat (.list (.pair (.pair (.int .u8) (.pair (.int .i64) (.int .i64))) (.pair (.int .i64) (.int .i64)))))]), (.tmp 1 false [(.dat (.int .i64))]), (.tmp 2 false [(.dat (.int .i64))])] a) : dialtonelaw37_RatingPieces a = some true := pieces_j a.1 a.2.1 a.2.2
theorem costs_main (a : (List Ra × Int) × (List UInt8 × (Int × Int))) (_ : WfIs [(.tmp 0 true [(.dat (.list Uty)), (.dat (.int .i64))]), (.tmp 1 false [(.dat .str)]), (.tmp 2 false [(.dat (.int .i64))]), (.tmp 3 false [(.dat (.int .i64))])] a) : dialtonelaw37_RatingCosts a = some true := costs_j a.1.1 a.1.2 a.2.1 a.2.2.1 a.2.2.2
theorem known_main (a : Unit) (_ : WfIs [] a) : dialtonelaw37_RatingKnown a = some true := known_j
end Go.Proofs.Ytbckoncbimljeaa
