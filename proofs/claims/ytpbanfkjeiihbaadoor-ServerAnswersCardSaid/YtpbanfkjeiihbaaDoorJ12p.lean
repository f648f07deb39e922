import Derived.Test.YtpbanfkjeiihbaaDoorJ11p
set_option linter.unusedVariables false
set_option linter.unusedSimpArgs false
set_option maxRecDepth 1000000
set_option maxHeartbeats 4000000
namespace Go.Proofs.YtpbanfkjeiihbaaDoor
open Go.RowKit
def Pl (x : EnT) : Prop := x.2.1 ≠ 3 ∧ x.2.1 ≠ 7
def LogO (log : List EnT) : Prop := ∃ B, log = (0, 3, 0, 0, 0) :: B ∧ ∀ x ∈ B, Pl x
def LogE (now : Int) (log : List EnT) : Prop := ∃ B t, log = (0, 3, 0, 0, 0) :: (B ++ [(t, 7, 0, 0, 0)]) ∧ t ≤ now ∧ ∀ x ∈ B, Pl x
theorem LogO.app {log : List EnT} (h : LogO log) {P : List EnT} (hp : ∀ x ∈ P, Pl x) : LogO (log ++ P) := by
  obtain ⟨B, rfl, hB⟩ := h
  exact ⟨B ++ P, rfl, fun x hx => (List.mem_append.1 hx).elim (hB x) (hp x)⟩
theorem LogO.end_ {log : List EnT} (h : LogO log) {t now : Int} (ht : t ≤ now) : LogE now (log ++ [(t, 7, 0, 0, 0)]) := by
  obtain ⟨B, rfl, hB⟩ := h
  exact ⟨B, t, rfl, ht, hB⟩
theorem LogE.mono {log : List EnT} {a b : Int} (h : LogE a log) (hab : a ≤ b) : LogE b log := by
  obtain ⟨B, t, h1, h2, h3⟩ := h
  exact ⟨B, t, h1, Int.le_trans h2 hab, h3⟩
def INV (s c k now : Int) (log : List EnT) (over last : Int) : Prop := 0 ≤ now ∧ c = last ∧
  ((over = -1 ∧ k = -1 ∧ ((s = 2 ∧ last = 0) ∨ (s = 3 ∧ 100 ≤ last ∧ last ≤ 199)) ∧ LogO log) ∨
   (s = 5 ∧ (200 ≤ last ∧ last ≤ 699) ∧ k = over ∧ now ≤ over ∧ LogO log) ∨
   (s = 7 ∧ (200 ≤ last ∧ last ≤ 699) ∧ k = -1 ∧ (0 ≤ over ∧ over ≤ now) ∧ LogE now log))
theorem pk_no {k t : Int} (h : ¬ (0 ≤ k ∧ k ≤ t)) : pk k t = -1 := if_neg h
theorem pk_yes {k t : Int} (h : 0 ≤ k ∧ k ≤ t) : pk k t = 10 := if_pos h
theorem until_no {γ : Type} (s c k now t : Int) (log : List EnT) (h : pk k t = -1) : loopO (untilB (γ := γ) t) (0, mkS s c k now log) = some (.inl (mkS s c k now log)) := by
  rw [loopO_eq, show ((0 : Int), mkS s c k now log) = (((0 : Nat) : Int), mkS s c k now log) from rfl, until_end s c k now t log 0 (by omega) h]
theorem until_j {s c k now t : Int} {log : List EnT} {over last : Int} (h : INV s c k now log over last) (hl : log.length ≤ 80000) (hnt : now ≤ t) :
    ∃ s' k' now' log', (∀ {γ : Type}, loopO (untilB (γ := γ) t) (0, mkS s c k now log) = some (.inl (mkS s' c k' now' log'))) ∧ INV s' c k' t log' over last ∧ (s' = 5 → t < over) ∧ log'.length ≤ log.length + 1 ∧ now' ≤ t := by
  obtain ⟨h0, rfl, h⟩ := h
  rcases h with ⟨rfl, rfl, hs, hL⟩ | ⟨rfl, hc, rfl, hn, hL⟩ | ⟨rfl, hc, rfl, ho, hL⟩
  · exact ⟨_, _, _, _, fun {γ} => until_no s c (-1) now t log (pk_no (by omega)), ⟨by omega, rfl, .inl ⟨rfl, rfl, hs, hL⟩⟩, by omega, by omega, hnt⟩
  · by_cases hk : k ≤ t
    · have hp := pk_yes (k := k) (t := t) ⟨by omega, hk⟩
      refine ⟨7, -1, k, log ++ [(k, 7, 0, 0, 0)], fun {γ} => ?_, ⟨by omega, rfl, .inr (.inr ⟨rfl, hc, rfl, by omega, hL.end_ hk⟩)⟩, by omega, by simp, hk⟩
      rw [loopO_eq, show ((0 : Int), mkS 5 c k now log) = (((0 : Nat) : Int), mkS 5 c k now log) from rfl, until_K (γ := γ) 5 c k now t log 0 (by omega) hp (sv_5_5 hc) (fun {δ} => take_1 7 c (-1) k log (by omega) (7, 0, 0, 0) (by decide))]
      simp only
      rw [loopO_eq, until_end 7 c (-1) k t _ (0 + 1) (by omega) (pk_no (by omega))]
    · exact ⟨_, _, _, _, fun {γ} => until_no 5 c k now t log (pk_no (by omega)), ⟨by omega, rfl, .inr (.inl ⟨rfl, hc, rfl, by omega, hL⟩)⟩, by omega, by omega, hnt⟩
  · exact ⟨_, _, _, _, fun {γ} => until_no 7 c (-1) now t log (pk_no (by omega)), ⟨by omega, rfl, .inr (.inr ⟨rfl, hc, rfl, by omega, hL.mono hnt⟩)⟩, by omega, by omega, hnt⟩
theorem getD_app (l : List EnT) (y : EnT) (m : List EnT) : (l ++ y :: m).getD l.length (0, 0, 0, 0, 0) = y := by
  rw [List.getD_eq_getElem?_getD, List.getElem?_append_right (Nat.le_refl _), Nat.sub_self]; rfl
theorem pl1 (t c : Int) : ∀ x ∈ [(t, (1 : Int), c, (0 : Int), (0 : Int))], Pl x := fun x hx => by
  rcases List.mem_singleton.1 hx with rfl
  exact ⟨by show (1 : Int) ≠ 3; omega, by show (1 : Int) ≠ 7; omega⟩
theorem pl2 (t c a : Int) : ∀ x ∈ [(t, (1 : Int), c, (0 : Int), (0 : Int)), (t, (4 : Int), 0, 10, a)], Pl x := fun x hx => by
  rcases List.mem_cons.1 hx with rfl | hx
  · exact ⟨by show (1 : Int) ≠ 3; omega, by show (1 : Int) ≠ 7; omega⟩
  · rcases List.mem_singleton.1 hx with rfl
    exact ⟨by show (4 : Int) ≠ 3; omega, by show (4 : Int) ≠ 7; omega⟩
theorem events_step (a1 : List (Int × (Int × Int))) {s c k now : Int} {log : List EnT} {over last : Int} (h : INV s c k now log over last) (hl : log.length ≤ 70000) (hnow : now ≤ 2900000) (i : Nat) (hi : i < a1.length) (hi2 : i < 40) (hw : 0 ≤ (a1.getD i (0, 0, 0)).1 ∧ (a1.getD i (0, 0, 0)).1 ≤ 65535) (hk : 0 ≤ (a1.getD i (0, 0, 0)).2.1) :
    ∃ s' c' k' now' log' over' last', eventsB a1 ((i : Int), (over, (last, mkS s c k now log))) = some (.inl (((i + 1 : Nat) : Int), (over', (last', mkS s' c' k' now' log')))) ∧ INV s' c' k' now' log' over' last' ∧ log'.length ≤ log.length + 3 ∧ now' ≤ now + 65535 := by
  obtain ⟨x, hx⟩ : ∃ x, a1.getD i (0, 0, 0) = x := ⟨_, rfl⟩
  rw [hx] at hw hk
  have n0 := h.1
  obtain ⟨s1, k1, now1, log1, q1, q2, q3, q4, q5⟩ := until_j (t := now + x.1) h (by omega) (by omega)
  obtain ⟨cd, hcd⟩ : ∃ cd, codeE x = cd := ⟨_, rfl⟩
  have hcr := codeE_in x
  rw [hcd] at hcr
  have hm : Int.tmod x.2.1 2 = 0 ∨ Int.tmod x.2.1 2 = 1 := by
    rw [Int.tmod_eq_emod_of_nonneg hk]; omega
  obtain ⟨t, ht⟩ : ∃ t, t = now + x.1 := ⟨_, rfl⟩
  rw [← ht] at q1 q2 q3 q5
  obtain ⟨g0, rfl, g⟩ := q2
  have fin : ∀ {s' c' k' : Int} {log' : List EnT} {over' last' : Int}, eventsB a1 ((i : Int), (over, (c, mkS s c k now log))) = some (.inl (((i + 1 : Nat) : Int), (over', (last', mkS s' c' k' t log')))) → INV s' c' k' t log' over' last' → log'.length ≤ log.length + 3 →
      ∃ s' c' k' now' log' over' last', eventsB a1 ((i : Int), (over, (c, mkS s c k now log))) = some (.inl (((i + 1 : Nat) : Int), (over', (last', mkS s' c' k' now' log')))) ∧ INV s' c' k' now' log' over' last' ∧ log'.length ≤ log.length + 3 ∧ now' ≤ now + 65535 := fun p1 p2 p3 => ⟨_, _, _, _, _, _, _, p1, p2, p3, by omega⟩
  rcases g with ⟨rfl, rfl, hs, hL⟩ | ⟨rfl, hc, rfl, hn, hL⟩ | ⟨rfl, hc, rfl, ho, hL⟩
  · rcases hm with hm | hm
    · rcases hs with ⟨rfl, rfl⟩ | ⟨rfl, hc⟩
      · exact fin (ev_C a1 hi hi2 hx hw ⟨n0, hnow⟩ ht q5 q1 hm hcd (sv_2_1 cd) (fun {δ} => take_nil 2 0 (-1) t log1) may2 (by omega) rfl rfl (by decide)) ⟨g0, rfl, .inl ⟨rfl, rfl, .inl ⟨rfl, rfl⟩, hL⟩⟩ (by omega)
      · exact fin (ev_D a1 hi hi2 hx hw ⟨n0, hnow⟩ ht q5 q1 hm hcd (sv_3_1 hc cd) (fun {δ} => take_1 3 c (-1) t log1 (by omega) (1, c, 0, 0) (show (1 : Int) ≠ 4 by omega)) (may3 hc) (by omega) (by omega) (by simp) (getD_app _ _ _) (by decide)) ⟨g0, rfl, .inl ⟨rfl, rfl, .inr ⟨rfl, hc⟩, hL.app (pl1 t c)⟩⟩ (by simp; omega)
    · by_cases h2 : cd ≥ 200
      · have e2 : IntKind.wrap .i64 (t + maxA 1 32000) = t + 32000 := by rw [show maxA 1 32000 = 32000 from rfl, wrap_i64' (by omega)]
        have hif : (if cd ≥ 200 then t + 32000 else -1) = t + 32000 := if_pos h2
        rcases hs with ⟨rfl, rfl⟩ | ⟨rfl, hc⟩
        · refine fin (ev_A a1 hi hi2 hx hw ⟨n0, hnow⟩ ht q5 q1 hm hcd (sv_2_4b ⟨h2, hcr.2⟩) (fun {δ} => take_xK 5 cd (-1) t log1 (by omega) (1, cd, 0, 0) 32000 (show (1 : Int) ≠ 4 by omega) (by omega)) (may5 ⟨h2, hcr.2⟩) (by omega) (by simp) (getD_app _ _ _) (by decide)) ?_ (by simp; omega)
          rw [e2, hif]
          exact ⟨g0, rfl, .inr (.inl ⟨rfl, ⟨h2, hcr.2⟩, rfl, by omega, hL.app (pl2 t cd 32000)⟩)⟩
        · refine fin (ev_A a1 hi hi2 hx hw ⟨n0, hnow⟩ ht q5 q1 hm hcd (sv_3_4b hc ⟨h2, hcr.2⟩) (fun {δ} => take_xK 5 cd (-1) t log1 (by omega) (1, cd, 0, 0) 32000 (show (1 : Int) ≠ 4 by omega) (by omega)) (may5 ⟨h2, hcr.2⟩) (by omega) (by simp) (getD_app _ _ _) (by decide)) ?_ (by simp; omega)
          rw [e2, hif]
          exact ⟨g0, rfl, .inr (.inl ⟨rfl, ⟨h2, hcr.2⟩, rfl, by omega, hL.app (pl2 t cd 32000)⟩)⟩
      · have h3 : 100 ≤ cd ∧ cd ≤ 199 := by omega
        have hif : (if cd ≥ 200 then t + 32000 else (-1 : Int)) = -1 := if_neg h2
        rcases hs with ⟨rfl, rfl⟩ | ⟨rfl, hc⟩
        · refine fin (ev_A a1 hi hi2 hx hw ⟨n0, hnow⟩ ht q5 q1 hm hcd (sv_2_4a h3) (fun {δ} => take_1 3 cd (-1) t log1 (by omega) (1, cd, 0, 0) (show (1 : Int) ≠ 4 by omega)) (may3 h3) (by omega) (by simp) (getD_app _ _ _) (by decide)) ?_ (by simp; omega)
          rw [hif]
          exact ⟨g0, rfl, .inl ⟨rfl, rfl, .inr ⟨rfl, h3⟩, hL.app (pl1 t cd)⟩⟩
        · refine fin (ev_A a1 hi hi2 hx hw ⟨n0, hnow⟩ ht q5 q1 hm hcd (sv_3_4a hc h3) (fun {δ} => take_1 3 cd (-1) t log1 (by omega) (1, cd, 0, 0) (show (1 : Int) ≠ 4 by omega)) (may3 h3) (by omega) (by simp) (getD_app _ _ _) (by decide)) ?_ (by simp; omega)
          rw [hif]
          exact ⟨g0, rfl, .inl ⟨rfl, rfl, .inr ⟨rfl, h3⟩, hL.app (pl1 t cd)⟩⟩
  · have hto := q3 rfl
    rcases hm with hm | hm
    · exact fin (ev_E a1 hi hi2 hx hw ⟨n0, hnow⟩ ht q5 q1 hm hcd (sv_5_1 hc cd) (fun {δ} => take_1 5 c k1 t log1 (by omega) (1, c, 0, 0) (show (1 : Int) ≠ 4 by omega)) (may5 hc) (by omega) hto (by omega) (by simp) (getD_app _ _ _) (by decide)) ⟨g0, rfl, .inr (.inl ⟨rfl, hc, rfl, hn, hL.app (pl1 t c)⟩)⟩ (by simp; omega)
    · exact fin (ev_B a1 hi hi2 hx hw ⟨n0, hnow⟩ ht q5 q1 hm hcd (sv_5_4 hc cd) (fun {δ} => take_nil 5 c k1 t log1) (may5 hc) (by omega) rfl (by omega)) ⟨g0, rfl, .inr (.inl ⟨rfl, hc, rfl, hn, hL⟩)⟩ (by omega)
  · have hc' : 100 ≤ c ∧ c ≤ 699 := by omega
    rcases hm with hm | hm
    · exact fin (ev_F a1 hi hi2 hx hw ⟨n0, hnow⟩ ht q5 q1 hm hcd (sv_7_1 hc' cd) (fun {δ} => take_nil 7 c (-1) t log1) (may7 hc') ho.1 ho.2 (by omega) rfl rfl) ⟨g0, rfl, .inr (.inr ⟨rfl, hc, rfl, ho, hL⟩)⟩ (by omega)
    · exact fin (ev_B a1 hi hi2 hx hw ⟨n0, hnow⟩ ht q5 q1 hm hcd (sv_7_4 hc' cd) (fun {δ} => take_nil 7 c (-1) t log1) (may7 hc') ho.1 rfl (by omega)) ⟨g0, rfl, .inr (.inr ⟨rfl, hc, rfl, ho, hL⟩)⟩ (by omega)
theorem events_j (a1 : List (Int × (Int × Int))) (hw : ∀ i, i < a1.length → 0 ≤ (a1.getD i (0, 0, 0)).1 ∧ (a1.getD i (0, 0, 0)).1 ≤ 65535) (hk : ∀ i, i < a1.length → 0 ≤ (a1.getD i (0, 0, 0)).2.1) {s c k now : Int} {log : List EnT} {over last : Int} (h : INV s c k now log over last) (hl : log.length ≤ 10) (hnow : now ≤ 0) :
    ∃ s' c' k' now' log' over' last', loopO (eventsB a1) (0, (over, (last, mkS s c k now log))) = some (.inl (mkS s' c' k' now' log')) ∧ INV s' c' k' now' log' over' last' ∧ log'.length ≤ 20000 ∧ now' ≤ 2700000 := by
  have hp := loopO_post (body := eventsB a1)
    (fun x => ∃ (n : Nat) (s' c' k' now' : Int) (log' : List EnT) (over' last' : Int), x = ((n : Int), (over', (last', mkS s' c' k' now' log'))) ∧ INV s' c' k' now' log' over' last' ∧ n ≤ 40 ∧ log'.length ≤ 10 + 3 * n ∧ now' ≤ 65535 * n)
    (fun r => ∃ s' c' k' now' log' over' last', r = .inl (mkS s' c' k' now' log') ∧ INV s' c' k' now' log' over' last' ∧ log'.length ≤ 20000 ∧ now' ≤ 2700000)
    (fun x => (40 - x.1).toNat)
    (fun x hx => by
      obtain ⟨n, s', c', k', now', log', over', last', rfl, hI, hm, hlen, hnow⟩ := hx
      by_cases h1 : n < a1.length ∧ n < 40
      · obtain ⟨s2, c2, k2, now2, log2, over2, last2, q1, q2, q3, q4⟩ := events_step a1 hI (by omega) (by omega) n h1.1 h1.2 (hw n h1.1) (hk n h1.1)
        refine .inr ⟨_, q1, ⟨n + 1, _, _, _, _, _, _, _, rfl, q2, by omega, by omega, by omega⟩, ?_⟩
        show (40 - ((n + 1 : Nat) : Int)).toNat < (40 - (n : Int)).toNat
        omega
      · refine .inl ⟨.inl (mkS s' c' k' now' log'), ?_, _, _, _, _, _, _, _, rfl, hI, by omega, by omega⟩
        unfold eventsB mkS
        by_cases h2 : n < a1.length
        · simp (disch := (first | omega | (simp only [LNl]; omega))) only [↓SDl, SDr, if_pos, if_neg]
        · simp (disch := (first | omega | (simp only [LNl]; omega))) only [↓SDl, SDr, if_neg])
    (x := (0, (over, (last, mkS s c k now log)))) ⟨0, _, _, _, _, _, _, _, rfl, h, by omega, by omega, by omega⟩
  obtain ⟨r, h1, s', c', k', now', log', over', last', rfl, h2⟩ := hp
  exact ⟨s', c', k', now', log', over', last', h1, h2⟩
def cq (K T lo up : Int) (x : EnT) : Bool := decide (x.2.1 = K ∧ x.1 ≤ T ∧ lo ≤ x.2.2.1 ∧ x.2.2.1 ≤ up)
theorem cnt_j {δ : Type} (G : List EnT) (K T lo up : Int) (hG : G.length ≤ 100000) : loopO (cntB (δ := δ) G K T lo up) (0, 0) = some (.inl ((G.countP (cq K T lo up) : Nat) : Int)) := by
  refine loopO_from (fun i => ((i : Int), (((G.take i).countP (cq K T lo up) : Nat) : Int))) G.length rfl (fun i hi => ?_) ?_
  · obtain ⟨x, hx, hxb⟩ := get_at (0, 0, 0, 0, 0) hi
    have ht := take_snoc G (0, 0, 0, 0, 0) hi
    rw [hx] at ht
    have hb := List.countP_le_length (l := G.take i) (p := cq K T lo up)
    rw [List.length_take] at hb
    have hn : ((i : Int) + 1) = ((i + 1 : Nat) : Int) := rfl
    simp only [ht, List.countP_append, List.countP_singleton]
    generalize List.countP (cq K T lo up) (List.take i G) = N at hb ⊢
    have hN : ((N : Int) + 1) = ((N + 1 : Nat) : Int) := rfl
    unfold cntB
    by_cases h1 : x.2.1 = K
    · by_cases h2 : x.1 ≤ T
      · by_cases h3 : x.2.2.1 ≥ lo
        · by_cases h4 : x.2.2.1 ≤ up
          · have hq : cq K T lo up x = true := decide_eq_true ⟨h1, h2, h3, h4⟩
            simp (disch := (first | omega | (simp only [LNl]; omega))) only [↓SDl, SDr, if_pos, if_neg, ↓hxb, wrap_i64', hn, h1, h2, h3, h4, decide_true, hq, if_true, hN]
          · have hq : cq K T lo up x = false := decide_eq_false fun k => h4 k.2.2.2
            simp (disch := (first | omega | (simp only [LNl]; omega))) only [↓SDl, SDr, if_pos, if_neg, ↓hxb, wrap_i64', hn, h1, h2, h3, h4, decide_true, decide_false, hq, Bool.false_eq_true, if_false, Nat.add_zero]
        · have hq : cq K T lo up x = false := decide_eq_false fun k => h3 k.2.2.1
          simp (disch := (first | omega | (simp only [LNl]; omega))) only [↓SDl, SDr, if_pos, if_neg, ↓hxb, wrap_i64', hn, h1, h2, h3, decide_true, decide_false, hq, Bool.false_eq_true, if_false, Nat.add_zero]
      · have hq : cq K T lo up x = false := decide_eq_false fun k => h2 k.2.1
        simp (disch := (first | omega | (simp only [LNl]; omega))) only [↓SDl, SDr, if_pos, if_neg, ↓hxb, wrap_i64', hn, h1, h2, decide_true, decide_false, hq, Bool.false_eq_true, if_false, Nat.add_zero]
    · have hq : cq K T lo up x = false := decide_eq_false fun k => h1 k.1
      simp (disch := (first | omega | (simp only [LNl]; omega))) only [↓SDl, SDr, if_pos, if_neg, ↓hxb, wrap_i64', hn, h1, decide_false, hq, Bool.false_eq_true, if_false, Nat.add_zero]
  · unfold cntB
    simp (disch := (first | omega | (simp only [LNl]; omega))) only [↓SDl, SDr, if_neg, List.take_length]
theorem pl_count {B : List EnT} (h : ∀ x ∈ B, Pl x) (K T lo up : Int) (hK : K = 3 ∨ K = 7) : B.countP (cq K T lo up) = 0 := by
  rw [List.countP_eq_zero]
  intro x hx
  have := h x hx
  unfold Pl at this
  unfold cq
  simp only [decide_eq_true_eq]
  omega
theorem logO_counts {log : List EnT} (h : LogO log) {T : Int} (hT : 0 ≤ T) : log.countP (cq 3 T 0 1000) = 1 ∧ log.countP (cq 7 T 0 1000) = 0 := by
  obtain ⟨B, rfl, hB⟩ := h
  have e1 : cq 3 T 0 1000 (0, 3, 0, 0, 0) = true := decide_eq_true ⟨rfl, hT, by show (0 : Int) ≤ 0; omega, by show (0 : Int) ≤ 1000; omega⟩
  have e2 : cq 7 T 0 1000 (0, 3, 0, 0, 0) = false := decide_eq_false fun k => absurd k.1 (by decide)
  rw [List.countP_cons, List.countP_cons, pl_count hB 3 T 0 1000 (.inl rfl), pl_count hB 7 T 0 1000 (.inr rfl), e1, e2]
  exact ⟨rfl, rfl⟩
theorem logE_counts {log : List EnT} {T : Int} (h : LogE T log) (hT : 0 ≤ T) : log.countP (cq 3 T 0 1000) = 1 ∧ log.countP (cq 7 T 0 1000) = 1 ∧ 0 < log.length ∧ (log.getD (log.length - 1) (0, 0, 0, 0, 0)).2.1 = 7 := by
  obtain ⟨B, t, rfl, ht, hB⟩ := h
  have e1 : cq 3 T 0 1000 (0, 3, 0, 0, 0) = true := decide_eq_true ⟨rfl, hT, by show (0 : Int) ≤ 0; omega, by show (0 : Int) ≤ 1000; omega⟩
  have e2 : cq 7 T 0 1000 (0, 3, 0, 0, 0) = false := decide_eq_false fun k => absurd k.1 (by decide)
  have e3 : cq 3 T 0 1000 (t, 7, 0, 0, 0) = false := decide_eq_false fun k => absurd k.1 (show ¬ (7 : Int) = 3 by omega)
  have e4 : cq 7 T 0 1000 (t, 7, 0, 0, 0) = true := decide_eq_true ⟨rfl, ht, by show (0 : Int) ≤ 0; omega, by show (0 : Int) ≤ 1000; omega⟩
  refine ⟨?_, ?_, by simp, ?_⟩
  · rw [List.countP_cons, List.countP_append, List.countP_singleton, pl_count hB 3 T 0 1000 (.inl rfl), e1, e3]; rfl
  · rw [List.countP_cons, List.countP_append, List.countP_singleton, pl_count hB 7 T 0 1000 (.inr rfl), e2, e4]; rfl
  · rw [show (0, 3, 0, 0, 0) :: (B ++ [(t, 7, 0, 0, 0)]) = ((0, 3, 0, 0, 0) :: B) ++ (t, 7, 0, 0, 0) :: [] from rfl, show (((0, 3, 0, 0, 0) :: B) ++ (t, 7, 0, 0, 0) :: [] : List EnT).length - 1 = (((0, 3, 0, 0, 0) :: B) : List EnT).length by simp, getD_app]
theorem answers_all (a1 : List (Int × (Int × Int))) (hw : ∀ i, i < a1.length → 0 ≤ (a1.getD i (0, 0, 0)).1 ∧ (a1.getD i (0, 0, 0)).1 ≤ 65535) (hk : ∀ i, i < a1.length → 0 ≤ (a1.getD i (0, 0, 0)).2.1) : dialtonelaw15_ServerAnswers a1 = some true := by
  refine one_start a1 true ?_
  have h0 : INV 2 0 (-1) 0 log0 (-1) 0 := ⟨by omega, rfl, .inl ⟨rfl, rfl, .inl ⟨rfl, rfl⟩, [], rfl, fun x hx => by cases hx⟩⟩
  obtain ⟨s1, c1, k1, now1, log1, over1, last1, q1, q2, q3, q4⟩ := events_j a1 hw hk h0 (by simp [log0]) (by omega)
  obtain ⟨g0, rfl, g⟩ := q2
  have hlen : log1.length ≤ 100000 := by omega
  have hc3 := fun δ => cnt_j (δ := δ) log1 3 now1 0 1000 hlen
  have hc7 := fun δ => cnt_j (δ := δ) log1 7 now1 0 1000 hlen
  unfold oneTail
  refine joinO_eq (a := mkS s1 c1 k1 now1 log1) ?_ ?_
  · simp only [mkS, Nat.le_refl, decide_true, cond_true, List.take_length]
    exact q1
  · simp only [mkS]
    rcases g with ⟨rfl, rfl, hs, hL⟩ | ⟨rfl, hc, rfl, hn, hL⟩ | ⟨rfl, hc, rfl, ho, hL⟩
    · have h7 : s1 ≠ 7 := by omega
      obtain ⟨d1, d2⟩ := logO_counts hL g0
      simp only [d1, d2] at hc3 hc7
      simp (disch := (first | omega | (simp only [LNl]; omega))) only [↓SDl, SDr, if_pos, if_neg, hc3, hc7, h7, decide_false, decide_true, bne_self_eq_false]
      first | done | rfl | simp
    · obtain ⟨d1, d2⟩ := logO_counts hL g0
      simp only [d1, d2] at hc3 hc7
      simp (disch := (first | omega | (simp only [LNl]; omega))) only [↓SDl, SDr, if_pos, if_neg, hc3, hc7, decide_false, decide_true, bne_self_eq_false]
      first | done | rfl | simp
    · obtain ⟨d1, d2, d3, d4⟩ := logE_counts hL g0
      simp only [d1, d2] at hc3 hc7
      obtain ⟨x, hx, hxb⟩ := get_at (0, 0, 0, 0, 0) (show log1.length - 1 < log1.length by omega)
      rw [hx] at d4
      have hw1 : IntKind.wrap .i64 ((log1.length : Int) - 1) = ((log1.length - 1 : Nat) : Int) := by rw [wrap_i64' (by omega)]; omega
      have hgt : (log1.length : Int) > 0 := by omega
      have hin : (0 : Int) ≤ ((log1.length - 1 : Nat) : Int) ∧ ((log1.length - 1 : Nat) : Int) < (log1.length : Int) := by omega
      simp (disch := (first | omega | (simp only [LNl]; omega))) only [↓SDl, SDr, if_pos, if_neg, hc3, hc7, hw1, hgt, hin, ↓hxb, d4, decide_false, decide_true, bne_self_eq_false, and_self]
      first | done | rfl | simp
theorem answers_main (a : List (Int × (Int × Int))) (h : WfIs [(.tmp 0 false [(.dat (.list (.pair (.int .u16) (.pair (.int .u8) (.int .i64)))))])] a) : dialtonelaw15_ServerAnswers a = some true := by
  refine answers_all a (fun i hi => ?_) (fun i hi => ?_)
  · have hm : a.getD i (0, 0, 0) ∈ a := by rw [getD_get _ hi]; exact List.getElem_mem hi
    exact wfU16 (h.1.1.2 _ hm).1
  · have hm : a.getD i (0, 0, 0) ∈ a := by rw [getD_get _ hi]; exact List.getElem_mem hi
    exact (wfU8 (h.1.1.2 _ hm).2.1).1
end Go.Proofs.YtpbanfkjeiihbaaDoor
