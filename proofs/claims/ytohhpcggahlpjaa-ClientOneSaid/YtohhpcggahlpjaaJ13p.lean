import Derived.Test.YtohhpcggahlpjaaJ12p
set_option linter.unusedVariables false
set_option linter.unusedSimpArgs false
set_option maxRecDepth 1000000
set_option maxHeartbeats 4000000
namespace Go.Proofs.Ytohhpcggahlpjaa
open Go.RowKit
theorem cA {A : List EnT} {t K T lo up : Int} (hA : ∀ x ∈ A, P0 t x) (hK : (K = 3 ∧ lo = 200) ∨ K = 5 ∨ K = 6 ∨ K = 7) : A.countP (cq K T lo up) = 0 := by
  rw [List.countP_eq_zero]
  intro x hx
  obtain ⟨_, h⟩ := hA x hx
  unfold cq
  simp only [decide_eq_true_eq]
  omega
theorem endT_counts {log : List EnT} {T : Int} (h : EndT log T) (hl : log.length ≤ 80000) : ∃ a b d : Int, ((log.countP (cq 3 T 200 699) : Nat) : Int) = a ∧ ((log.countP (cq 5 T 0 1000) : Nat) : Int) = b ∧ ((log.countP (cq 6 T 0 1000) : Nat) : Int) = d ∧ a + b + d = 1 ∧ (0 ≤ a ∧ 0 ≤ b ∧ 0 ≤ d) ∧ ((log.countP (cq 7 37000 0 0) : Nat) : Int) = 1 ∧ ((log.countP (cq 7 T 0 1000) : Nat) : Int) = 1 ∧ loopO (overB log) (0, false) = some (.inl ()) ∧ 0 < log.length ∧ (log.getD (log.length - 1) (0, 0, 0, 0, 0)).2.1 = 7 := by
  obtain ⟨t, A, B, rfl, hA, h1, h2, h3⟩ := h
  have a3 : ∀ T up, A.countP (cq 3 T 200 up) = 0 := fun T up => cA hA (.inl ⟨rfl, rfl⟩)
  have a5 : ∀ T lo up, A.countP (cq 5 T lo up) = 0 := fun T lo up => cA hA (.inr (.inl rfl))
  have a6 : ∀ T lo up, A.countP (cq 6 T lo up) = 0 := fun T lo up => cA hA (.inr (.inr (.inl rfl)))
  have a7 : ∀ T lo up, A.countP (cq 7 T lo up) = 0 := fun T lo up => cA hA (.inr (.inr (.inr rfl)))
  have hlast : ∀ (C : List EnT) (x : EnT), (A ++ (C ++ [x])).getD ((A ++ (C ++ [x])).length - 1) (0, 0, 0, 0, 0) = x := fun C x => by
    rw [← List.append_assoc, List.length_append, List.length_singleton, Nat.add_sub_cancel, List.getD_eq_getElem?_getD, List.getElem?_append_right (Nat.le_refl _), Nat.sub_self]
    rfl
  rw [List.length_append] at hl
  rcases h3 with rfl | rfl | ⟨t0, c0, k1, k2, k3, rfl⟩
  · refine ⟨0, 1, 0, ?_, ?_, ?_, by omega, by omega, ?_, ?_, over_j A (t, 5, 0, 0, 0) [(t, 7, 0, 0, 0)] (by simp at *; omega) hA (.inr (.inl rfl)) (fun y hy => .inr (by simp at hy; rw [hy])), by simp, by rw [show A ++ [(t, 5, 0, 0, 0), (t, 7, 0, 0, 0)] = A ++ ([(t, 5, 0, 0, 0)] ++ [(t, 7, 0, 0, 0)]) from rfl, hlast]⟩ <;> simp [List.countP_append, List.countP_cons, a3, a5, a6, a7, cq, h1, h2]
  · refine ⟨0, 0, 1, ?_, ?_, ?_, by omega, by omega, ?_, ?_, over_j A (t, 6, 0, 0, 0) [(t, 7, 0, 0, 0)] (by simp at *; omega) hA (.inr (.inr rfl)) (fun y hy => .inr (by simp at hy; rw [hy])), by simp, by rw [show A ++ [(t, 6, 0, 0, 0), (t, 7, 0, 0, 0)] = A ++ ([(t, 6, 0, 0, 0)] ++ [(t, 7, 0, 0, 0)]) from rfl, hlast]⟩ <;> simp [List.countP_append, List.countP_cons, a3, a5, a6, a7, cq, h1, h2]
  · have k4 : t0 ≤ T := by omega
    refine ⟨1, 0, 0, ?_, ?_, ?_, by omega, by omega, ?_, ?_, over_j A (t0, 3, c0, 0, 0) [(t0, 4, 0, 11, 5000), (t, 7, 0, 0, 0)] (by simp [FB] at *; omega) hA (.inl ⟨rfl, k1⟩) (fun y hy => by simp at hy; rcases hy with rfl | rfl <;> simp), by simp; omega, by rw [hlast]⟩ <;> simp [FB, List.countP_append, List.countP_cons, a3, a5, a6, a7, cq, h1, h2, k1, k2, k4]
theorem one_all (a1 : List (Int × (Int × Int))) (hw : ∀ i, i < a1.length → 0 ≤ (a1.getD i (0, 0, 0)).1 ∧ (a1.getD i (0, 0, 0)).1 ≤ 65535) : dialtonelaw13_ClientOne a1 = some true := by
  refine one_start a1 true ?_
  have h0 : INV 2 500 0 500 32000 (-1) 0 log0 := .inl ⟨.inl rfl, .inl rfl, rfl, rfl, rfl, by omega, by omega, by omega, by omega, fun x hx => by
    simp [log0] at hx
    rcases hx with rfl | rfl | rfl <;> (unfold P0; simp)⟩
  obtain ⟨s1, w1, c1, e1, f1, k1, now1, log1, q1, q2, q3, q4⟩ := events_j a1 hw h0 (by simp [log0]) (by omega)
  have n1 := inv_now q2
  obtain ⟨s2, w2, c2, e2, f2, k2, now2, log2, r1, r2, r3, r4, r5⟩ := until_j (γ := NT ⊕ Bool) (t := now1 + 37000) q2 (by omega) (by omega) (by omega)
  have hmx : maxA now2 (now1 + 37000) = now1 + 37000 := by unfold maxA; omega
  have r6 := setNow r2 r3 r5
  have hC : PC s2 w2 c2 e2 f2 k2 (now1 + 37000) log2 := by
    rcases pk_cases e2 f2 k2 (now1 + 37000) with ⟨_, g1, g2, g3⟩ | ⟨g, _⟩ | ⟨g, _⟩ | ⟨g, _⟩
    · rcases r6 with h | h | h
      · obtain ⟨hs, hw, rfl, rfl, rfl, n0, n1, he, he2, hlog⟩ := h
        omega
      · obtain ⟨rfl, rfl, hc, n0, n1, n2, he, hf, t0, A, hA, hA2, hA3⟩ := h
        omega
      · exact h
    · omega
    · omega
    · omega
  obtain ⟨rfl, rfl, hc, n0, he, hf, hk, hE⟩ := hC
  obtain ⟨a, b, d, d1, d2, d3, d4, d5, d6, d7, d8, d9, d10⟩ := endT_counts hE (by omega)
  have hlen : log2.length ≤ 100000 := by omega
  obtain ⟨x, hx, hxb⟩ := get_at (0, 0, 0, 0, 0) (show log2.length - 1 < log2.length by omega)
  have hsub : (log2.length : Int) - 1 = ((log2.length - 1 : Nat) : Int) := by omega
  rw [hx] at d10
  have hmay : client_May (7, 0, c2) = some true := by rw [may_j, decide_eq_true (show Ok13 7 0 c2 from .inr (.inr ⟨rfl, rfl, hc⟩))]
  have hdec : ∀ (l : List EnT), decide (l.length ≤ l.length) = true := fun l => decide_eq_true (Nat.le_refl _)
  unfold oneTail
  refine joinO_eq (a := mkS s1 w1 c1 e1 f1 k1 now1 log1) ?_ ?_
  · simp only [mkS, Nat.le_refl, decide_true, cond_true, List.take_length]
    exact q1
  · simp only [mkS]
    rw [bindO_some, wrap_i64' (by omega)]
    refine joinO_eq (a := mkS 7 0 c2 e2 f2 k2 (now1 + 37000) log2) (joinO_eq (a := mkS 7 0 c2 e2 f2 k2 now2 log2) ?_ ?_) ?_
    · simp only [Nat.le_refl, decide_true, cond_true, List.take_length]
      exact r1
    · simp only [mkS, Nat.le_refl, decide_true, cond_true, List.take_length, hmx]
    · simp only [mkS]
      have hc3 := fun δ => cnt_j (δ := δ) log2 3 (now1 + 37000) 200 699 hlen
      have hc5 := fun δ => cnt_j (δ := δ) log2 5 (now1 + 37000) 0 1000 hlen
      have hc6 := fun δ => cnt_j (δ := δ) log2 6 (now1 + 37000) 0 1000 hlen
      have hc7 := fun δ => cnt_j (δ := δ) log2 7 37000 0 0 hlen
      have hc8 := fun δ => cnt_j (δ := δ) log2 7 (now1 + 37000) 0 1000 hlen
      simp only [d1, d2, d3, d6, d7] at hc3 hc5 hc6 hc7 hc8
      have hsum : IntKind.wrap .i64 (IntKind.wrap .i64 (a + b) + d) = 1 := by rw [wrap_i64' (n := a + b) (by omega), wrap_i64' (by omega)]; omega
      have hgt : (log2.length : Int) > 0 := by omega
      have hw1 : IntKind.wrap .i64 ((log2.length : Int) - 1) = ((log2.length - 1 : Nat) : Int) := by rw [wrap_i64' (by omega)]; omega
      have hin : (0 : Int) ≤ ((log2.length - 1 : Nat) : Int) ∧ ((log2.length - 1 : Nat) : Int) < (log2.length : Int) := by omega
      simp only [hc3, hc5, hc6, hc7, hc8, d8, ↓bindO_some, ↓bindO_none, ↓joinO_inl, ↓joinO_inr, ↓joinO_none, ↓outO_some, ↓outO_none, ↓cond_true, ↓cond_false, ↓cond_and, ↓cond_or, ↓cond_not, ↓cond_ite, ↓if_pos, ↓if_neg, ↓if_true, ↓if_false, List.take_length, Nat.le_refl, Bool.not_true, Bool.not_false, hsum, hmay, hgt, hw1, hin, ↓hxb, d10, ne_eq, not_true_eq_false, decide_false, decide_true, bne_self_eq_false, and_self]
      first | rfl | simp | skip
theorem one_main (a : List (Int × (Int × Int))) (h : WfIs [(.tmp 0 false [(.dat (.list (.pair (.int .u16) (.pair (.int .u8) (.int .i64)))))])] a) : dialtonelaw13_ClientOne a = some true := by
  refine one_all a fun i hi => ?_
  have hm : a.getD i (0, 0, 0) ∈ a := by rw [getD_get _ hi]; exact List.getElem_mem hi
  exact wfU16 (h.1.1.2 _ hm).1
end Go.Proofs.Ytohhpcggahlpjaa
