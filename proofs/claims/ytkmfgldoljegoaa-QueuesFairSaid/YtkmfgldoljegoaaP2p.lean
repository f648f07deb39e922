import Derived.Test.YtkmfgldoljegoaaN5p
set_option linter.unusedVariables false
set_option linter.unusedSimpArgs false
set_option maxRecDepth 100000
set_option maxHeartbeats 4000000
namespace Go.Proofs.Ytkmfgldoljegoaa
open Go.RowKit
theorem idxC_cases (cs : List Ca) (a : Int) : (idxC cs a = -1 ∧ ∀ k, k < cs.length → (cs.getD k dC).1 ≠ a) ∨ ∃ k : Nat, idxC cs a = (k : Int) ∧ k < cs.length ∧ (cs.getD k dC).1 = a := by
  unfold idxC
  by_cases h : cs.findIdx (fun c => decide (c.1 = a)) < cs.length
  · right
    rw [if_pos h]
    refine ⟨_, rfl, h, ?_⟩
    have := List.findIdx_getElem (w := h)
    simp only [decide_eq_true_eq] at this
    rw [getD_get dC h]; exact this
  · left
    rw [if_neg h]
    refine ⟨rfl, fun k hk e => h ?_⟩
    rw [List.findIdx_lt_length]
    exact ⟨cs.getD k dC, by rw [getD_get dC hk]; exact List.getElem_mem hk, by simp only [e, decide_true]⟩
def lastC (cs : List Ca) : Nat → Int
  | 0 => 0
  | i + 1 => (cs.getD i dC).2.2.1
def lastS (ss : List Se) : Nat → Int
  | 0 => 0
  | i + 1 => (ss.getD i dS).1
def PA (ss : List Se) (c : Ca) : Prop := c.2.2.2 ≠ 0 → ∃ k : Nat, idxT ss c.2.2.2 = (k : Int) ∧ k < ss.length ∧ (ss.getD k dS).2.1 = 2 ∧ (ss.getD k dS).2.2.2.1 = c.1
def PC (cs : List Ca) (ss : List Se) (now : Int) (i : Nat) : Prop := (1 ≤ (cs.getD i dC).1 ∧ (cs.getD i dC).1 ≤ 2147483647) ∧ (0 ≤ (cs.getD i dC).2.1 ∧ (cs.getD i dC).2.1 ≤ 10) ∧ (lastC cs i ≤ (cs.getD i dC).2.2.1 ∧ (cs.getD i dC).2.2.1 ≤ now) ∧ (∀ j, j < i → (cs.getD j dC).1 ≠ (cs.getD i dC).1) ∧ PA ss (cs.getD i dC)
def PR (cs : List Ca) (s : Se) : Prop := ∃ i : Nat, idxC cs s.2.2.2.1 = (i : Int) ∧ i < cs.length ∧ (cs.getD i dC).2.2.2 = s.1
def PS (cs : List Ca) (ss : List Se) (now : Int) (k : Nat) : Prop := (lastS ss k + 1 ≤ (ss.getD k dS).1 ∧ (ss.getD k dS).1 ≤ 2147483647) ∧ (0 ≤ (ss.getD k dS).2.2.1 ∧ (ss.getD k dS).2.2.1 ≤ now) ∧ (0 ≤ (ss.getD k dS).2.2.2.2 ∧ (ss.getD k dS).2.2.2.2 ≤ 2147483647) ∧
  ((((ss.getD k dS).2.1 = 1 ∨ (ss.getD k dS).2.1 = 4) ∧ (ss.getD k dS).2.2.2.1 = 0) ∨ ((ss.getD k dS).2.1 = 2 ∧ 1 ≤ (ss.getD k dS).2.2.2.1 ∧ PR cs (ss.getD k dS)) ∨ ((ss.getD k dS).2.1 = 3 ∧ (1 ≤ (ss.getD k dS).2.2.2.1 ∧ (ss.getD k dS).2.2.2.1 ≤ 2147483647) ∧ idxC cs (ss.getD k dS).2.2.2.1 = -1 ∧ ¬ Busy (ss.take k) (ss.getD k dS).2.2.2.1))
theorem mci_j (cs : List Ca) (c : Ca) (h : cs.length ≤ 9223372036854775806) : ((∀ j, j < cs.length → (cs.getD j dC).1 ≠ c.1) ∧ loopO (mciB cs c) 0 = some (.inl ())) ∨ (¬ (∀ j, j < cs.length → (cs.getD j dC).1 ≠ c.1) ∧ loopO (mciB cs c) 0 = some (.inr (.inr (.inr (.inr false))))) := by
  refine loop_all (body := mciB cs c) cs.length (fun j => (cs.getD j dC).1 ≠ c.1) _ _ (fun i hi hb => ?_) (fun i hi hb => ?_) ?_
  · obtain ⟨x, hx, hxb⟩ := get_at dC hi
    rw [hx] at hb
    unfold mciB
    simp (disch := (first | omega | (simp only [LNl]; omega))) only [↓SDl, SDr, if_pos, if_neg, ↓hxb, wrap_i64']
    rfl
  · obtain ⟨x, hx, hxb⟩ := get_at dC hi
    rw [hx] at hb
    have hb' : x.1 = c.1 := by omega
    unfold mciB
    simp (disch := (first | omega | (simp only [LNl]; omega))) only [↓SDl, SDr, if_pos, if_neg, ↓hxb, hb', decide_true]
  · unfold mciB
    simp (disch := (first | omega | (simp only [LNl]; omega))) only [↓SDl, SDr, if_neg]
theorem mcl_j (a1 : List Ca) (a2 : List Se) (a3 a4 a5 a6 a7 : Int) (h1 : a1.length ≤ 1000) (h2 : a2.length ≤ 1000) : Is (queues_mayCallers (a1, (a2, (a3, (a4, (a5, (a6, a7))))))) (∀ i, i < a1.length → PC a1 a2 a7 i) := by
  rw [mcl_eq]
  rcases loop_allI (body := mclB a1 a2 a3 a4 a5 a6 a7) (fun i => ((i : Int), lastC a1 i)) a1.length (PC a1 a2 a7) (.inl ()) (.inr false) rfl (fun i hi hp hb => by
    obtain ⟨x, hx, hxb⟩ := get_at dC hi
    obtain ⟨b1, b2, b3, b4, b5⟩ := hb
    unfold PA at b5
    rw [hx] at b1 b2 b3 b4 b5
    have hk : (a1.take i).length = i := by rw [List.length_take]; omega
    have b4' : ∀ j, j < (a1.take i).length → ((a1.take i).getD j dC).1 ≠ x.1 := fun j hj => by rw [hk] at hj; rw [getD_take a1 dC hj]; exact b4 j hj
    have e := (mci_j (a1.take i) x (by omega)).resolve_right (fun q => q.1 b4')
    have hl : lastC a1 (i + 1) = x.2.2.1 := by show (a1.getD i dC).2.2.1 = _; rw [hx]
    show mclB a1 a2 a3 a4 a5 a6 a7 ((i : Int), lastC a1 i) = some (Sum.inl (((i + 1 : Nat) : Int), lastC a1 (i + 1)))
    rw [hl]
    have e2 := e.2
    unfold mclB
    by_cases ha : x.2.2.2 = 0
    · simp (disch := (first | omega | (simp only [LNl]; omega))) only [↓SDl, SDr, if_pos, if_neg, ↓hxb, ↓wit_b, Int.toNat_natCast, e2, wrap_i64']
      rfl
    · obtain ⟨k, k1, k2, k3, k4⟩ := b5 ha
      obtain ⟨y, hy, hyb⟩ := get_at dS k2
      rw [hy] at k3 k4
      simp (disch := (first | omega | (simp only [LNl]; omega))) only [↓SDl, SDr, if_pos, if_neg, ↓hxb, ↓hyb, ↓wit_b, ↓sof_b, k1, Int.toNat_natCast, e2, wrap_i64', ↓(get_at' dS k2), hy]
      rfl) (fun i hi hp hb => by
    obtain ⟨x, hx, hxb⟩ := get_at dC hi
    have hk : (a1.take i).length = i := by rw [List.length_take]; omega
    show mclB a1 a2 a3 a4 a5 a6 a7 ((i : Int), lastC a1 i) = some (Sum.inr (Sum.inr false))
    unfold PC PA at hb
    rw [hx] at hb
    unfold mclB
    by_cases b1 : 1 ≤ x.1 ∧ x.1 ≤ 2147483647
    · by_cases b2 : 0 ≤ x.2.1 ∧ x.2.1 ≤ 10
      · by_cases b3 : lastC a1 i ≤ x.2.2.1 ∧ x.2.2.1 ≤ a7
        · rcases mci_j (a1.take i) x (by omega) with ⟨b4, e2⟩ | ⟨b4, e2⟩
          · have b4' : ∀ j, j < i → (a1.getD j dC).1 ≠ x.1 := fun j hj => by have := b4 j (by omega); rwa [getD_take a1 dC hj] at this
            by_cases ha : x.2.2.2 = 0
            · exact absurd ⟨b1, b2, b3, b4', fun q => absurd ha q⟩ hb
            · rcases idxT_cases a2 x.2.2.2 with ⟨k1, _⟩ | ⟨k, k1, k2, _⟩
              · simp (disch := (first | omega | (simp only [LNl]; omega))) only [↓SDl, SDr, if_pos, if_neg, ↓hxb, ↓wit_b, ↓sof_b, k1, Int.toNat_natCast, e2, wrap_i64']
              · obtain ⟨y, hy, hyb⟩ := get_at dS k2
                by_cases b6 : y.2.1 = 2
                · by_cases b7 : y.2.2.2.1 = x.1
                  · exact absurd ⟨b1, b2, b3, b4', fun _ => ⟨k, k1, k2, by rw [hy]; exact ⟨b6, b7⟩⟩⟩ hb
                  · simp (disch := (first | omega | (simp only [LNl]; omega))) only [↓SDl, SDr, if_pos, if_neg, ↓hxb, ↓hyb, ↓wit_b, ↓sof_b, k1, Int.toNat_natCast, e2, wrap_i64', ↓(get_at' dS k2), hy]
                · simp (disch := (first | omega | (simp only [LNl]; omega))) only [↓SDl, SDr, if_pos, if_neg, ↓hxb, ↓hyb, ↓wit_b, ↓sof_b, k1, Int.toNat_natCast, e2, wrap_i64', ↓(get_at' dS k2), hy]
          · simp (disch := (first | omega | (simp only [LNl]; omega))) only [↓SDl, SDr, if_pos, if_neg, ↓hxb, ↓wit_b, Int.toNat_natCast, e2, wrap_i64']
        · simp (disch := (first | omega | (simp only [LNl]; omega))) only [↓SDl, SDr, if_pos, if_neg, ↓hxb, ↓wit_b, Int.toNat_natCast, wrap_i64']
      · simp (disch := (first | omega | (simp only [LNl]; omega))) only [↓SDl, SDr, if_pos, if_neg, ↓hxb, ↓wit_b, Int.toNat_natCast, wrap_i64']
    · simp (disch := (first | omega | (simp only [LNl]; omega))) only [↓SDl, SDr, if_pos, if_neg, ↓hxb, ↓wit_b, Int.toNat_natCast, wrap_i64']) (fun _ => by
    show mclB a1 a2 a3 a4 a5 a6 a7 ((a1.length : Int), lastC a1 a1.length) = _
    unfold mclB
    simp (disch := (first | omega | (simp only [LNl]; omega))) only [↓SDl, SDr, if_neg]) with ⟨hp, e⟩ | ⟨hp, e⟩
  · exact .inl ⟨hp, joinO_eq e rfl⟩
  · exact .inr ⟨hp, joinO_eqr e⟩
theorem mse_j (a1 : List Ca) (a2 : List Se) (a3 a4 a5 a6 a7 : Int) (h1 : a1.length ≤ 1000) (h2 : a2.length ≤ 1000) : Is (queues_maySeats (a1, (a2, (a3, (a4, (a5, (a6, a7))))))) (∀ i, i < a2.length → PS a1 a2 a7 i) := by
  rw [mse_eq]
  rcases loop_allI (body := mseB a1 a2 a3 a4 a5 a6 a7) (fun i => ((i : Int), lastS a2 i)) a2.length (PS a1 a2 a7) (.inl ()) (.inr false) rfl (fun i hi hp hb => by
    have hlast : 0 ≤ lastS a2 i ∧ lastS a2 i ≤ 2147483647 := by
      have : ∀ j, j ≤ i → 0 ≤ lastS a2 j ∧ lastS a2 j ≤ 2147483647 := by
        intro j
        induction j with
        | zero => intro _; exact ⟨Int.le_refl _, (by decide : (0 : Int) ≤ 2147483647)⟩
        | succ j ih =>
          intro hj
          have := ih (by omega)
          have h3 := (hp j (by omega)).1
          show 0 ≤ (a2.getD j dS).1 ∧ (a2.getD j dS).1 ≤ 2147483647
          omega
      exact this i (Nat.le_refl _)
    obtain ⟨x, hx, hxb⟩ := get_at dS hi
    obtain ⟨b1, b2, b3, b4⟩ := hb
    unfold PR at b4
    rw [hx] at b1 b2 b3 b4
    have hl : lastS a2 (i + 1) = x.1 := by show (a2.getD i dS).1 = _; rw [hx]
    show mseB a1 a2 a3 a4 a5 a6 a7 ((i : Int), lastS a2 i) = some (Sum.inl (((i + 1 : Nat) : Int), lastS a2 (i + 1)))
    rw [hl]
    unfold mseB
    rcases b4 with ⟨c1 | c1, c2⟩ | ⟨c1, c2, k, k1, k2, k3⟩ | ⟨c1, c2, c3, c4⟩
    · simp (disch := (first | omega | (simp only [LNl]; omega))) only [↓SDl, SDr, if_pos, if_neg, ↓hxb, ↓wit_b, c1, decide_true, wrap_i64']
      rfl
    · simp (disch := (first | omega | (simp only [LNl]; omega))) only [↓SDl, SDr, if_pos, if_neg, ↓hxb, ↓wit_b, c1, decide_true, wrap_i64']
      rfl
    · obtain ⟨y, hy, hyb⟩ := get_at dC k2
      rw [hy] at k3
      have n1 : ¬ x.2.1 = 1 := by omega
      have n4 : ¬ x.2.1 = 4 := by omega
      simp (disch := (first | omega | (simp only [LNl]; omega))) only [↓SDl, SDr, if_pos, if_neg, ↓hxb, ↓hyb, ↓wit_b, ↓cof_b, k1, n1, n4, c1, decide_true, decide_false, wrap_i64']
      rfl
    · have n1 : ¬ x.2.1 = 1 := by omega
      have n4 : ¬ x.2.1 = 4 := by omega
      have n2 : ¬ x.2.1 = 2 := by omega
      rcases (pbz_j (a2.take i) x.2.2.2.1 (by rw [List.length_take]; omega)).b with ⟨q, bz⟩ | ⟨q, bz⟩
      · exact absurd q c4
      · simp (disch := (first | omega | (simp only [LNl]; omega))) only [↓SDl, SDr, if_pos, if_neg, ↓hxb, ↓wit_b, ↓cof_b, c3, n1, n4, n2, c1, decide_true, decide_false, wrap_i64', Int.toNat_natCast, ↓bz]
        rfl) (fun i hi hp hb => by
    have hlast : 0 ≤ lastS a2 i ∧ lastS a2 i ≤ 2147483647 := by
      have : ∀ j, j ≤ i → 0 ≤ lastS a2 j ∧ lastS a2 j ≤ 2147483647 := by
        intro j
        induction j with
        | zero => intro _; exact ⟨Int.le_refl _, (by decide : (0 : Int) ≤ 2147483647)⟩
        | succ j ih =>
          intro hj
          have := ih (by omega)
          have h3 := (hp j (by omega)).1
          show 0 ≤ (a2.getD j dS).1 ∧ (a2.getD j dS).1 ≤ 2147483647
          omega
      exact this i (Nat.le_refl _)
    obtain ⟨x, hx, hxb⟩ := get_at dS hi
    unfold PS PR at hb
    rw [hx] at hb
    show mseB a1 a2 a3 a4 a5 a6 a7 ((i : Int), lastS a2 i) = some (Sum.inr (Sum.inr false))
    unfold mseB
    by_cases b1 : lastS a2 i + 1 ≤ x.1 ∧ x.1 ≤ 2147483647
    · by_cases b2 : 0 ≤ x.2.2.1 ∧ x.2.2.1 ≤ a7
      · by_cases b3 : 0 ≤ x.2.2.2.2 ∧ x.2.2.2.2 ≤ 2147483647
        · by_cases n1 : x.2.1 = 1
          · by_cases c2 : x.2.2.2.1 = 0
            · exact absurd ⟨b1, b2, b3, .inl ⟨.inl n1, c2⟩⟩ hb
            · simp (disch := (first | omega | (simp only [LNl]; omega))) only [↓SDl, SDr, if_pos, if_neg, ↓hxb, ↓wit_b, n1, decide_true, wrap_i64']
          · by_cases n4 : x.2.1 = 4
            · by_cases c2 : x.2.2.2.1 = 0
              · exact absurd ⟨b1, b2, b3, .inl ⟨.inr n4, c2⟩⟩ hb
              · simp (disch := (first | omega | (simp only [LNl]; omega))) only [↓SDl, SDr, if_pos, if_neg, ↓hxb, ↓wit_b, n4, decide_true, wrap_i64']
            · by_cases n2 : x.2.1 = 2
              · by_cases c2 : 1 ≤ x.2.2.2.1
                · rcases idxC_cases a1 x.2.2.2.1 with ⟨k1, _⟩ | ⟨k, k1, k2, _⟩
                  · simp (disch := (first | omega | (simp only [LNl]; omega))) only [↓SDl, SDr, if_pos, if_neg, ↓hxb, ↓wit_b, ↓cof_b, k1, n1, n4, n2, decide_true, decide_false, wrap_i64']
                  · obtain ⟨y, hy, hyb⟩ := get_at dC k2
                    by_cases c3 : y.2.2.2 = x.1
                    · exact absurd ⟨b1, b2, b3, .inr (.inl ⟨n2, c2, k, k1, k2, by rw [hy]; exact c3⟩)⟩ hb
                    · simp (disch := (first | omega | (simp only [LNl]; omega))) only [↓SDl, SDr, if_pos, if_neg, ↓hxb, ↓hyb, ↓wit_b, ↓cof_b, k1, n1, n4, n2, decide_true, decide_false, wrap_i64']
                · simp (disch := (first | omega | (simp only [LNl]; omega))) only [↓SDl, SDr, if_pos, if_neg, ↓hxb, ↓wit_b, ↓cof_b, n1, n4, n2, decide_true, decide_false, wrap_i64']
              · by_cases n3 : x.2.1 = 3
                · by_cases c2 : 1 ≤ x.2.2.2.1 ∧ x.2.2.2.1 ≤ 2147483647
                  · rcases idxC_cases a1 x.2.2.2.1 with ⟨k1, _⟩ | ⟨k, k1, k2, _⟩
                    · rcases (pbz_j (a2.take i) x.2.2.2.1 (by rw [List.length_take]; omega)).b with ⟨q, bz⟩ | ⟨q, bz⟩
                      · simp (disch := (first | omega | (simp only [LNl]; omega))) only [↓SDl, SDr, if_pos, if_neg, ↓hxb, ↓wit_b, ↓cof_b, k1, n1, n4, n2, n3, decide_true, decide_false, wrap_i64', Int.toNat_natCast, ↓bz]
                      · exact absurd ⟨b1, b2, b3, .inr (.inr ⟨n3, c2, k1, q⟩)⟩ hb
                    · simp (disch := (first | omega | (simp only [LNl]; omega))) only [↓SDl, SDr, if_pos, if_neg, ↓hxb, ↓wit_b, ↓cof_b, k1, n1, n4, n2, n3, decide_true, decide_false, wrap_i64']
                  · simp (disch := (first | omega | (simp only [LNl]; omega))) only [↓SDl, SDr, if_pos, if_neg, ↓hxb, ↓wit_b, n1, n4, n2, n3, decide_true, decide_false, wrap_i64']
                · simp (disch := (first | omega | (simp only [LNl]; omega))) only [↓SDl, SDr, if_pos, if_neg, ↓hxb, ↓wit_b, n1, n4, n2, n3, decide_true, decide_false, wrap_i64']
        · simp (disch := (first | omega | (simp only [LNl]; omega))) only [↓SDl, SDr, if_pos, if_neg, ↓hxb, ↓wit_b, wrap_i64']
      · simp (disch := (first | omega | (simp only [LNl]; omega))) only [↓SDl, SDr, if_pos, if_neg, ↓hxb, ↓wit_b, wrap_i64']
    · simp (disch := (first | omega | (simp only [LNl]; omega))) only [↓SDl, SDr, if_pos, if_neg, ↓hxb, ↓wit_b, wrap_i64']) (fun _ => by
    show mseB a1 a2 a3 a4 a5 a6 a7 ((a2.length : Int), lastS a2 a2.length) = _
    unfold mseB
    simp (disch := (first | omega | (simp only [LNl]; omega))) only [↓SDl, SDr, if_neg]) with ⟨hp, e⟩ | ⟨hp, e⟩
  · exact .inl ⟨hp, joinO_eq e rfl⟩
  · exact .inr ⟨hp, joinO_eqr e⟩
end Go.Proofs.Ytkmfgldoljegoaa
