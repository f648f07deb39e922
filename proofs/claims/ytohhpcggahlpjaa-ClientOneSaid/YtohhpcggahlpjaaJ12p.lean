import Derived.Test.YtohhpcggahlpjaaJ11p
set_option linter.unusedVariables false
set_option linter.unusedSimpArgs false
set_option maxRecDepth 1000000
set_option maxHeartbeats 4000000
namespace Go.Proofs.Ytohhpcggahlpjaa
open Go.RowKit
theorem give {s w c e f k now : Int} {log : List EnT} (h : INV s w c e f k now log) (hl : log.length ≤ 90000) (kd cd : Int) :
    ∃ s' w' c' k' log' O, client_Step ((s, (w, c)), (kd, (cd, 0))) = some ((s', (w', c')), O) ∧ (∀ {δ : Type}, loopO (takeB (δ := δ) O) (0, mkS s' w' c' e f k now log) = some (.inl (mkS s' w' c' e f k' now log'))) ∧ INV s' w' c' e f k' now log' ∧ log'.length ≤ log.length + 2 := by
  rcases h with h | h | h
  · obtain ⟨hs, hw, rfl, rfl, rfl, n0, n1, he, he2, hlog⟩ := h
    rcases st_give hs hw kd cd with g | ⟨g1, g2, g⟩ | ⟨g1, g2, g⟩ | g
    · exact ⟨_, _, _, _, _, _, g, fun {δ} => take_2 7 0 0 e 32000 (-1) now log hl _ _ (by simp) (by simp), .inr (.inr ⟨rfl, rfl, .inl rfl, n0, .inr ⟨he, by omega⟩, .inr ⟨n1, by omega⟩, .inl rfl, now, log, _, rfl, hlog, by omega, by omega, .inr (.inl rfl)⟩), by simp⟩
    · refine ⟨_, _, _, _, _, _, g, fun {δ} => take_1 3 w 0 e 32000 (-1) now log hl _ (by simp), .inl ⟨.inr rfl, hw, rfl, rfl, rfl, n0, n1, he, he2, fun x hx => ?_⟩, by simp⟩
      rcases List.mem_append.1 hx with hx | hx
      · exact hlog x hx
      · rcases List.mem_cons.1 hx with rfl | hx
        · exact ⟨Int.le_refl _, .inr (.inr ⟨rfl, g1, g2⟩)⟩
        · cases hx
    · have htk : ∀ {δ : Type}, loopO (takeB (δ := δ) [(3, cd, 0, 0), (4, 0, 11, 5000)]) (0, mkS 5 0 cd e 32000 (-1) now log) = some (.inl (mkS 5 0 cd e 32000 (now + 5000) now (log ++ FB now cd))) := fun {δ} => by
        rw [take_xK 5 0 cd e 32000 (-1) now log hl _ _ (by simp), show maxA 1 5000 = 5000 from rfl, wrap_i64' (by omega)]
        rfl
      exact ⟨_, _, _, _, _, _, g, htk, .inr (.inl ⟨rfl, rfl, ⟨g1, g2⟩, n0, by omega, by omega, .inr ⟨he, by omega⟩, .inr ⟨n1, by omega⟩, now, log, rfl, hlog, by omega⟩), by simp [FB]⟩
    · exact ⟨_, _, _, _, _, _, g, fun {δ} => take_nil s w 0 e 32000 (-1) now log, .inl ⟨hs, hw, rfl, rfl, rfl, n0, n1, he, he2, hlog⟩, by omega⟩
  · have h' := h
    obtain ⟨rfl, rfl, hc, _⟩ := h
    exact ⟨_, _, _, _, _, _, st_B hc kd cd 0 (by omega), fun {δ} => take_nil 5 0 c e f k now log, .inr (.inl h'), by omega⟩
  · have h' := h
    obtain ⟨rfl, rfl, hc, _⟩ := h
    exact ⟨_, _, _, _, _, _, st_C hc kd cd 0, fun {δ} => take_nil 7 0 c e f k now log, .inr (.inr h'), by omega⟩
theorem mu_le {s w c e f k now : Int} {log : List EnT} (h : INV s w c e f k now log) : mu s e f k ≤ 40 := by
  rcases h with h | h | h
  · obtain ⟨hs, hw, rfl, rfl, rfl, n0, n1, he, he2, hlog⟩ := h
    unfold mu
    rw [if_pos hs]
    omega
  · obtain ⟨rfl, _⟩ := h
    rw [mu_n (by omega)]
    unfold cn
    split <;> split <;> split <;> omega
  · obtain ⟨rfl, _⟩ := h
    rw [mu_n (by omega)]
    unfold cn
    split <;> split <;> split <;> omega
theorem until_j {γ : Type} {s w c e f k now t : Int} {log : List EnT} (h : INV s w c e f k now log) (hl : log.length ≤ 80000) (ht : t ≤ 3000000) (hnt : now ≤ t) :
    ∃ s' w' c' e' f' k' now' log', loopO (untilB (γ := γ) t) (0, mkS s w c e f k now log) = some (.inl (mkS s' w' c' e' f' k' now' log')) ∧ INV s' w' c' e' f' k' now' log' ∧ pk e' f' k' t = -1 ∧ log'.length ≤ log.length + 400 ∧ now' ≤ t := by
  have hp := loopO_post (body := untilB (γ := γ) t)
    (fun x => ∃ (n : Nat) (s' w' c' e' f' k' now' : Int) (log' : List EnT), x = ((n : Int), mkS s' w' c' e' f' k' now' log') ∧ INV s' w' c' e' f' k' now' log' ∧ n + mu s' e' f' k' ≤ 40 ∧ log'.length ≤ log.length + 2 * n ∧ now' ≤ t)
    (fun r => ∃ s' w' c' e' f' k' now' log', r = .inl (mkS s' w' c' e' f' k' now' log') ∧ INV s' w' c' e' f' k' now' log' ∧ pk e' f' k' t = -1 ∧ log'.length ≤ log.length + 400 ∧ now' ≤ t)
    (fun x => (40 - x.1).toNat)
    (fun x hx => by
      obtain ⟨n, s', w', c', e', f', k', now', log', rfl, hI, hm, hlen, hnow⟩ := hx
      by_cases hk : pk e' f' k' t = -1
      · exact .inl ⟨_, until_end s' w' c' e' f' k' now' t log' n (by omega) hk, _, _, _, _, _, _, _, _, rfl, hI, hk, by omega, hnow⟩
      · obtain ⟨s2, w2, c2, e2, f2, k2, now2, log2, q1, q2, q3, q4, q5⟩ := fire (γ := γ) hI (by omega) (show n < 200 by omega) hk ht
        refine .inr ⟨_, q1, ⟨n + 1, _, _, _, _, _, _, _, _, rfl, q2, by omega, by omega, q5⟩, ?_⟩
        show (40 - ((n + 1 : Nat) : Int)).toNat < (40 - (n : Int)).toNat
        omega)
    (x := (0, mkS s w c e f k now log)) ⟨0, _, _, _, _, _, _, _, _, rfl, h, by have := mu_le h; omega, by omega, hnt⟩
  obtain ⟨r, h1, s', w', c', e', f', k', now', log', rfl, h2⟩ := hp
  exact ⟨s', w', c', e', f', k', now', log', h1, h2⟩
theorem setNow {s w c e f k now t : Int} {log : List EnT} (h : INV s w c e f k now log) (hp : pk e f k t = -1) (hnt : now ≤ t) : INV s w c e f k t log := by
  rcases pk_cases e f k t with ⟨_, g1, g2, g3⟩ | ⟨g, _⟩ | ⟨g, _⟩ | ⟨g, _⟩
  · rcases h with h | h | h
    · obtain ⟨hs, hw, rfl, rfl, rfl, n0, n1, he, he2, hlog⟩ := h
      exact .inl ⟨hs, hw, rfl, rfl, rfl, by omega, by omega, by omega, he2, fun x hx => (hlog x hx).mono hnt⟩
    · obtain ⟨rfl, rfl, hc, n0, n1, n2, he, hf, t0, A, hA, hA2, hA3⟩ := h
      exact .inr (.inl ⟨rfl, rfl, hc, by omega, by omega, n2, by unfold TD at *; omega, by unfold TD at *; omega, t0, A, hA, hA2, by omega⟩)
    · obtain ⟨rfl, rfl, hc, n0, he, hf, hk, hE⟩ := h
      exact .inr (.inr ⟨rfl, rfl, hc, by omega, by unfold TD at *; omega, by unfold TD at *; omega, by unfold TD at *; omega, hE.mono hnt⟩)
  · omega
  · omega
  · omega
theorem inv_now {s w c e f k now : Int} {log : List EnT} (h : INV s w c e f k now log) : 0 ≤ now := by
  rcases h with h | h | h
  · exact h.2.2.2.2.2.1
  · exact h.2.2.2.1
  · exact h.2.2.2.1
theorem events_step (a1 : List (Int × (Int × Int))) {s w c e f k now : Int} {log : List EnT} (h : INV s w c e f k now log) (hl : log.length ≤ 70000) (hnow : now ≤ 2900000) (i : Nat) (hi : i < a1.length) (hi2 : i < 40) (hw : 0 ≤ (a1.getD i (0, 0, 0)).1 ∧ (a1.getD i (0, 0, 0)).1 ≤ 65535) :
    ∃ s' w' c' e' f' k' now' log', eventsB a1 ((i : Int), mkS s w c e f k now log) = some (.inl (((i + 1 : Nat) : Int), mkS s' w' c' e' f' k' now' log')) ∧ INV s' w' c' e' f' k' now' log' ∧ log'.length ≤ log.length + 402 ∧ now' ≤ now + 65535 := by
  obtain ⟨x, hx, hxb⟩ := get_at (0, 0, 0) hi
  rw [hx] at hw
  have n0 := inv_now h
  obtain ⟨s1, w1, c1, e1, f1, k1, now1, log1, q1, q2, q3, q4, q5⟩ := until_j (γ := NT ⊕ ((Int × NT) ⊕ (NT ⊕ Bool))) (t := now + x.1) h (by omega) (by omega) (by omega)
  have q6 := setNow q2 q3 q5
  obtain ⟨s2, w2, c2, k2, log2, O, g1, g2, g3, g4⟩ := give q6 (by omega) x.2.1 x.2.2
  have hmx : maxA now1 (now + x.1) = now + x.1 := by unfold maxA; omega
  have hn : ((i : Int) + 1) = ((i + 1 : Nat) : Int) := rfl
  refine ⟨s2, w2, c2, e1, f1, k2, now + x.1, log2, ?_, g3, by omega, by omega⟩
  unfold eventsB mkS
  unfold mkS at q1
  simp (disch := (first | omega | (simp only [List.length_append, List.length_cons, List.length_nil, List.nil_append, List.length_take, List.length_drop]; omega))) only [↓bindO_some, ↓bindO_none, ↓joinO_inl, ↓joinO_inr, ↓joinO_none, ↓outO_some, ↓outO_none, ↓cond_true, ↓cond_false, ↓cond_and, ↓cond_or, ↓cond_not, ↓cond_ite, ↓if_pos, ↓if_neg, ↓if_true, ↓if_false, List.take_length, Nat.le_refl, Bool.not_true, Bool.not_false, if_pos, if_neg, ↓hxb, wrap_i64']
  refine joinO_eq (a := mkS s1 w1 c1 e1 f1 k1 (now + x.1) log1) (joinO_eq (a := mkS s1 w1 c1 e1 f1 k1 now1 log1) q1 ?_) ?_
  · simp only [mkS, hmx]
  · show bindO (client_Step ((s1, w1, c1), x.2.1, x.2.2, 0)) _ = _
    rw [g1]
    exact joinO_eq g2 rfl
theorem events_j (a1 : List (Int × (Int × Int))) (hw : ∀ i, i < a1.length → 0 ≤ (a1.getD i (0, 0, 0)).1 ∧ (a1.getD i (0, 0, 0)).1 ≤ 65535) {s w c e f k now : Int} {log : List EnT} (h : INV s w c e f k now log) (hl : log.length ≤ 10) (hnow : now ≤ 0) :
    ∃ s' w' c' e' f' k' now' log', loopO (eventsB a1) (0, mkS s w c e f k now log) = some (.inl (mkS s' w' c' e' f' k' now' log')) ∧ INV s' w' c' e' f' k' now' log' ∧ log'.length ≤ 20000 ∧ now' ≤ 2700000 := by
  have hp := loopO_post (body := eventsB a1)
    (fun x => ∃ (n : Nat) (s' w' c' e' f' k' now' : Int) (log' : List EnT), x = ((n : Int), mkS s' w' c' e' f' k' now' log') ∧ INV s' w' c' e' f' k' now' log' ∧ n ≤ 40 ∧ log'.length ≤ 10 + 402 * n ∧ now' ≤ 65535 * n)
    (fun r => ∃ s' w' c' e' f' k' now' log', r = .inl (mkS s' w' c' e' f' k' now' log') ∧ INV s' w' c' e' f' k' now' log' ∧ log'.length ≤ 20000 ∧ now' ≤ 2700000)
    (fun x => (40 - x.1).toNat)
    (fun x hx => by
      obtain ⟨n, s', w', c', e', f', k', now', log', rfl, hI, hm, hlen, hnow⟩ := hx
      by_cases h1 : n < a1.length ∧ n < 40
      · obtain ⟨s2, w2, c2, e2, f2, k2, now2, log2, q1, q2, q3, q4⟩ := events_step a1 hI (by omega) (by omega) n h1.1 h1.2 (hw n h1.1)
        refine .inr ⟨_, q1, ⟨n + 1, _, _, _, _, _, _, _, _, rfl, q2, by omega, by omega, by omega⟩, ?_⟩
        show (40 - ((n + 1 : Nat) : Int)).toNat < (40 - (n : Int)).toNat
        omega
      · refine .inl ⟨.inl (mkS s' w' c' e' f' k' now' log'), ?_, _, _, _, _, _, _, _, _, rfl, hI, by omega, by omega⟩
        unfold eventsB mkS
        by_cases h2 : n < a1.length
        · simp (disch := (first | omega | (simp only [List.length_append, List.length_cons, List.length_nil, List.nil_append, List.length_take, List.length_drop]; omega))) only [↓bindO_some, ↓bindO_none, ↓joinO_inl, ↓joinO_inr, ↓joinO_none, ↓outO_some, ↓outO_none, ↓cond_true, ↓cond_false, ↓cond_and, ↓cond_or, ↓cond_not, ↓cond_ite, ↓if_pos, ↓if_neg, ↓if_true, ↓if_false, List.take_length, Nat.le_refl, Bool.not_true, Bool.not_false, if_pos, if_neg]
        · simp (disch := (first | omega | (simp only [List.length_append, List.length_cons, List.length_nil, List.nil_append, List.length_take, List.length_drop]; omega))) only [↓bindO_some, ↓bindO_none, ↓joinO_inl, ↓joinO_inr, ↓joinO_none, ↓outO_some, ↓outO_none, ↓cond_true, ↓cond_false, ↓cond_and, ↓cond_or, ↓cond_not, ↓cond_ite, ↓if_pos, ↓if_neg, ↓if_true, ↓if_false, List.take_length, Nat.le_refl, Bool.not_true, Bool.not_false, if_neg])
    (x := (0, mkS s w c e f k now log)) ⟨0, _, _, _, _, _, _, _, _, rfl, h, by omega, by omega, by omega⟩
  obtain ⟨r, h1, s', w', c', e', f', k', now', log', rfl, h2⟩ := hp
  exact ⟨s', w', c', e', f', k', now', log', h1, h2⟩
def cq (K T lo up : Int) (x : EnT) : Bool := decide (x.2.1 = K ∧ x.1 ≤ T ∧ lo ≤ x.2.2.1 ∧ x.2.2.1 ≤ up)
theorem cnt_j {δ : Type} (G : List EnT) (K T lo up : Int) (hG : G.length ≤ 100000) : loopO (cntB (δ := δ) G K T lo up) (0, 0) = some (.inl ((G.countP (cq K T lo up) : Nat) : Int)) := by
  refine loopO_from (fun i => ((i : Int), (((G.take i).countP (cq K T lo up) : Nat) : Int))) G.length rfl (fun i hi => ?_) ?_
  · obtain ⟨x, hx, hxb⟩ := get_at (0, 0, 0, 0, 0) hi
    have ht := take_snoc G (0, 0, 0, 0, 0) hi
    rw [hx] at ht
    have hb := List.countP_le_length (l := G.take i) (p := cq K T lo up)
    rw [List.length_take] at hb
    have hn : ((i : Int) + 1) = ((i + 1 : Nat) : Int) := rfl
    simp only [ht, List.countP_append, List.countP_singleton]
    generalize List.countP (cq K T lo up) (List.take i G) = N at hb ⊢
    have hN : ((N : Int) + 1) = ((N + 1 : Nat) : Int) := rfl
    unfold cntB
    by_cases h1 : x.2.1 = K
    · by_cases h2 : x.1 ≤ T
      · by_cases h3 : x.2.2.1 ≥ lo
        · by_cases h4 : x.2.2.1 ≤ up
          · have hq : cq K T lo up x = true := decide_eq_true ⟨h1, h2, h3, h4⟩
            simp (disch := (first | omega | (simp only [List.length_append, List.length_cons, List.length_nil, List.nil_append, List.length_take, List.length_drop]; omega))) only [↓bindO_some, ↓bindO_none, ↓joinO_inl, ↓joinO_inr, ↓joinO_none, ↓outO_some, ↓outO_none, ↓cond_true, ↓cond_false, ↓cond_and, ↓cond_or, ↓cond_not, ↓cond_ite, ↓if_pos, ↓if_neg, ↓if_true, ↓if_false, List.take_length, Nat.le_refl, Bool.not_true, Bool.not_false, if_pos, if_neg, ↓hxb, wrap_i64', hn, h1, h2, h3, h4, decide_true, hq, if_true, hN]
          · have hq : cq K T lo up x = false := decide_eq_false fun k => h4 k.2.2.2
            simp (disch := (first | omega | (simp only [List.length_append, List.length_cons, List.length_nil, List.nil_append, List.length_take, List.length_drop]; omega))) only [↓bindO_some, ↓bindO_none, ↓joinO_inl, ↓joinO_inr, ↓joinO_none, ↓outO_some, ↓outO_none, ↓cond_true, ↓cond_false, ↓cond_and, ↓cond_or, ↓cond_not, ↓cond_ite, ↓if_pos, ↓if_neg, ↓if_true, ↓if_false, List.take_length, Nat.le_refl, Bool.not_true, Bool.not_false, if_pos, if_neg, ↓hxb, wrap_i64', hn, h1, h2, h3, h4, decide_true, decide_false, hq, Bool.false_eq_true, if_false, Nat.add_zero]
        · have hq : cq K T lo up x = false := decide_eq_false fun k => h3 k.2.2.1
          simp (disch := (first | omega | (simp only [List.length_append, List.length_cons, List.length_nil, List.nil_append, List.length_take, List.length_drop]; omega))) only [↓bindO_some, ↓bindO_none, ↓joinO_inl, ↓joinO_inr, ↓joinO_none, ↓outO_some, ↓outO_none, ↓cond_true, ↓cond_false, ↓cond_and, ↓cond_or, ↓cond_not, ↓cond_ite, ↓if_pos, ↓if_neg, ↓if_true, ↓if_false, List.take_length, Nat.le_refl, Bool.not_true, Bool.not_false, if_pos, if_neg, ↓hxb, wrap_i64', hn, h1, h2, h3, decide_true, decide_false, hq, Bool.false_eq_true, if_false, Nat.add_zero]
      · have hq : cq K T lo up x = false := decide_eq_false fun k => h2 k.2.1
        simp (disch := (first | omega | (simp only [List.length_append, List.length_cons, List.length_nil, List.nil_append, List.length_take, List.length_drop]; omega))) only [↓bindO_some, ↓bindO_none, ↓joinO_inl, ↓joinO_inr, ↓joinO_none, ↓outO_some, ↓outO_none, ↓cond_true, ↓cond_false, ↓cond_and, ↓cond_or, ↓cond_not, ↓cond_ite, ↓if_pos, ↓if_neg, ↓if_true, ↓if_false, List.take_length, Nat.le_refl, Bool.not_true, Bool.not_false, if_pos, if_neg, ↓hxb, wrap_i64', hn, h1, h2, decide_true, decide_false, hq, Bool.false_eq_true, if_false, Nat.add_zero]
    · have hq : cq K T lo up x = false := decide_eq_false fun k => h1 k.1
      simp (disch := (first | omega | (simp only [List.length_append, List.length_cons, List.length_nil, List.nil_append, List.length_take, List.length_drop]; omega))) only [↓bindO_some, ↓bindO_none, ↓joinO_inl, ↓joinO_inr, ↓joinO_none, ↓outO_some, ↓outO_none, ↓cond_true, ↓cond_false, ↓cond_and, ↓cond_or, ↓cond_not, ↓cond_ite, ↓if_pos, ↓if_neg, ↓if_true, ↓if_false, List.take_length, Nat.le_refl, Bool.not_true, Bool.not_false, if_pos, if_neg, ↓hxb, wrap_i64', hn, h1, decide_false, hq, Bool.false_eq_true, if_false, Nat.add_zero]
  · unfold cntB
    simp (disch := (first | omega | (simp only [List.length_append, List.length_cons, List.length_nil, List.nil_append, List.length_take, List.length_drop]; omega))) only [↓bindO_some, ↓bindO_none, ↓joinO_inl, ↓joinO_inr, ↓joinO_none, ↓outO_some, ↓outO_none, ↓cond_true, ↓cond_false, ↓cond_and, ↓cond_or, ↓cond_not, ↓cond_ite, ↓if_pos, ↓if_neg, ↓if_true, ↓if_false, List.take_length, Nat.le_refl, Bool.not_true, Bool.not_false, if_neg, List.take_length]
theorem over_j (A : List EnT) (x : EnT) (B : List EnT) (hl : A.length + B.length ≤ 90000) {t : Int} (hA : ∀ y ∈ A, P0 t y) (hx : (x.2.1 = 3 ∧ 200 ≤ x.2.2.1) ∨ x.2.1 = 5 ∨ x.2.1 = 6) (hB : ∀ y ∈ B, y.2.1 = 4 ∨ y.2.1 = 7) :
    loopO (overB (A ++ x :: B)) (0, false) = some (.inl ()) := by
  have hlen : (A ++ x :: B).length = A.length + B.length + 1 := by rw [List.length_append, List.length_cons]; omega
  refine loopO_from (fun i => ((i : Int), decide (A.length < i))) (A ++ x :: B).length (by simp) (fun i hi => ?_) ?_
  · obtain ⟨y, hy, hyb⟩ := get_at (0, 0, 0, 0, 0) hi
    have hn : ((i : Int) + 1) = ((i + 1 : Nat) : Int) := rfl
    rw [getD_get _ hi] at hy
    unfold overB
    rcases Nat.lt_trichotomy i A.length with g | g | g
    · have hm : y ∈ A := by
        rw [List.getElem_append_left g] at hy
        rw [← hy]; exact List.getElem_mem g
      obtain ⟨_, p⟩ := hA y hm
      have d1 : decide (A.length < i) = false := decide_eq_false (by omega)
      have d2 : decide (A.length < i + 1) = false := decide_eq_false (by omega)
      rw [d1, d2]
      by_cases h3 : y.2.1 = 3
      · have h4 : ¬ y.2.2.1 ≥ 200 := by omega
        have h5 : ¬ y.2.1 = 5 := by omega
        have h6 : ¬ y.2.1 = 6 := by omega
        simp (disch := (first | omega | (simp only [List.length_append, List.length_cons, List.length_nil, List.nil_append, List.length_take, List.length_drop]; omega))) only [↓bindO_some, ↓bindO_none, ↓joinO_inl, ↓joinO_inr, ↓joinO_none, ↓outO_some, ↓outO_none, ↓cond_true, ↓cond_false, ↓cond_and, ↓cond_or, ↓cond_not, ↓cond_ite, ↓if_pos, ↓if_neg, ↓if_true, ↓if_false, List.take_length, Nat.le_refl, Bool.not_true, Bool.not_false, if_pos, if_neg, ↓hyb, wrap_i64', hn, h3, h4, h5, h6, decide_true, decide_false]
        simp
      · have h5 : ¬ y.2.1 = 5 := by omega
        have h6 : ¬ y.2.1 = 6 := by omega
        simp (disch := (first | omega | (simp only [List.length_append, List.length_cons, List.length_nil, List.nil_append, List.length_take, List.length_drop]; omega))) only [↓bindO_some, ↓bindO_none, ↓joinO_inl, ↓joinO_inr, ↓joinO_none, ↓outO_some, ↓outO_none, ↓cond_true, ↓cond_false, ↓cond_and, ↓cond_or, ↓cond_not, ↓cond_ite, ↓if_pos, ↓if_neg, ↓if_true, ↓if_false, List.take_length, Nat.le_refl, Bool.not_true, Bool.not_false, if_pos, if_neg, ↓hyb, wrap_i64', hn, h3, h5, h6, decide_true, decide_false]
    · subst g
      have hm : y = x := by
        rw [List.getElem_append_right (Nat.le_refl _)] at hy
        simp at hy
        exact hy.symm
      subst hm
      have d1 : decide (A.length < A.length) = false := decide_eq_false (by omega)
      have d2 : decide (A.length < A.length + 1) = true := decide_eq_true (by omega)
      rw [d1, d2]
      rcases hx with ⟨h3, h4⟩ | h5 | h6
      · have h4' : y.2.2.1 ≥ 200 := h4
        simp (disch := (first | omega | (simp only [List.length_append, List.length_cons, List.length_nil, List.nil_append, List.length_take, List.length_drop]; omega))) only [↓bindO_some, ↓bindO_none, ↓joinO_inl, ↓joinO_inr, ↓joinO_none, ↓outO_some, ↓outO_none, ↓cond_true, ↓cond_false, ↓cond_and, ↓cond_or, ↓cond_not, ↓cond_ite, ↓if_pos, ↓if_neg, ↓if_true, ↓if_false, List.take_length, Nat.le_refl, Bool.not_true, Bool.not_false, if_pos, if_neg, ↓hyb, wrap_i64', hn, h3, h4', decide_true, decide_false]
      · have h3 : ¬ y.2.1 = 3 := by omega
        simp (disch := (first | omega | (simp only [List.length_append, List.length_cons, List.length_nil, List.nil_append, List.length_take, List.length_drop]; omega))) only [↓bindO_some, ↓bindO_none, ↓joinO_inl, ↓joinO_inr, ↓joinO_none, ↓outO_some, ↓outO_none, ↓cond_true, ↓cond_false, ↓cond_and, ↓cond_or, ↓cond_not, ↓cond_ite, ↓if_pos, ↓if_neg, ↓if_true, ↓if_false, List.take_length, Nat.le_refl, Bool.not_true, Bool.not_false, if_pos, if_neg, ↓hyb, wrap_i64', hn, h3, h5, decide_true, decide_false]
        try simp
      · have h3 : ¬ y.2.1 = 3 := by omega
        have h5 : ¬ y.2.1 = 5 := by omega
        simp (disch := (first | omega | (simp only [List.length_append, List.length_cons, List.length_nil, List.nil_append, List.length_take, List.length_drop]; omega))) only [↓bindO_some, ↓bindO_none, ↓joinO_inl, ↓joinO_inr, ↓joinO_none, ↓outO_some, ↓outO_none, ↓cond_true, ↓cond_false, ↓cond_and, ↓cond_or, ↓cond_not, ↓cond_ite, ↓if_pos, ↓if_neg, ↓if_true, ↓if_false, List.take_length, Nat.le_refl, Bool.not_true, Bool.not_false, if_pos, if_neg, ↓hyb, wrap_i64', hn, h3, h5, h6, decide_true, decide_false]
        try simp
    · have hm : y ∈ B := by
        rw [List.getElem_append_right (by omega)] at hy
        rw [← hy]
        obtain ⟨q, hq⟩ : ∃ q, i - A.length = q + 1 := ⟨i - A.length - 1, by omega⟩
        simp only [hq, List.getElem_cons_succ]
        exact List.getElem_mem _
      have d1 : decide (A.length < i) = true := decide_eq_true (by omega)
      have d2 : decide (A.length < i + 1) = true := decide_eq_true (by omega)
      rw [d1, d2]
      have p := hB y hm
      have h3 : ¬ y.2.1 = 3 := by omega
      have h1 : ¬ y.2.1 = 1 := by omega
      simp (disch := (first | omega | (simp only [List.length_append, List.length_cons, List.length_nil, List.nil_append, List.length_take, List.length_drop]; omega))) only [↓bindO_some, ↓bindO_none, ↓joinO_inl, ↓joinO_inr, ↓joinO_none, ↓outO_some, ↓outO_none, ↓cond_true, ↓cond_false, ↓cond_and, ↓cond_or, ↓cond_not, ↓cond_ite, ↓if_pos, ↓if_neg, ↓if_true, ↓if_false, List.take_length, Nat.le_refl, Bool.not_true, Bool.not_false, if_pos, if_neg, ↓hyb, wrap_i64', hn, h3, h1, decide_true, decide_false]
  · unfold overB
    simp (disch := (first | omega | (simp only [List.length_append, List.length_cons, List.length_nil, List.nil_append, List.length_take, List.length_drop]; omega))) only [↓bindO_some, ↓bindO_none, ↓joinO_inl, ↓joinO_inr, ↓joinO_none, ↓outO_some, ↓outO_none, ↓cond_true, ↓cond_false, ↓cond_and, ↓cond_or, ↓cond_not, ↓cond_ite, ↓if_pos, ↓if_neg, ↓if_true, ↓if_false, List.take_length, Nat.le_refl, Bool.not_true, Bool.not_false, if_neg]
end Go.Proofs.Ytohhpcggahlpjaa
