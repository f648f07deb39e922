import Derived.Test.YtheicchelhjcjaaJ6p
set_option linter.unusedVariables false
set_option linter.unusedSimpArgs false
set_option maxRecDepth 100000
namespace Go.Proofs.Ytheicchelhjcjaa
open Go.RowKit
theorem clone_b {α β : Type} (l : List α) (f : List α → Option β) (h : l.length ≤ 1000000) : bindO (cloneG l) f = f l := by
  unfold cloneG
  rw [decide_eq_true h]
  rfl
theorem GO_len (l : List Br) (a3 a4 a5 : Bool) : (GO l a3 a4 a5).2.2.length ≤ l.length + 1 := by
  unfold GO
  split
  · simp
  split
  · simp
  split
  · simp
  · have := ac_len (pSn (l.getD (fdx Wa l).toNat d0).2.1) 1 l l.length
    show (ac _ _ _ _).length ≤ _
    omega
theorem GO_len1 (l : List Br) (a3 a4 a5 : Bool) : (GO l a3 a4 a5).1.length = l.length := by
  unfold GO
  split
  · rfl
  split
  · rfl
  split <;> simp
theorem fs_len (l : List Br) (i : Nat) (c : Int) : (fs l i c).length = l.length := by simp [fs]
theorem take_set (l : List Br) (n : Nat) (y : Br) : List.take l.length (List.set l n y) = List.set l n y := by
  have : (List.set l n y).length = l.length := by simp
  rw [← this, List.take_length]
theorem set_at {l : List Br} {i : Nat} (hi : i < l.length) {β : Type} (y : Br) (f : Br → Option β) : bindO (List.set l (Int.toNat (i : Int)) y)[Int.toNat (i : Int)]? f = f y := by
  rw [Int.toNat_natCast, List.getElem?_set_self hi]; rfl
theorem GO_done (l : List Br) (a3 a4 : Bool) : GO l a3 a4 true = (l, (true, [])) := by unfold GO; rw [if_pos rfl]
theorem stepR_j {l : List Br} {a2 : Int} {a3 a4 a5 : Bool} {k b c : Int} (h : CKO l a2 a3 a4 a5 k b c) (he : dialtoneref23_wrong ((l, (a2, (a3, (a4, a5)))), (k, (b, c))) = some 0) :
    dialtoneref23_Step ((l, (a2, (a3, (a4, a5)))), (k, (b, c))) = some ((STC l a2 a3 a4 a5 k b c).1, ((STC l a2 a3 a4 a5 k b c).2, 0)) := by
  rw [rstep_eq, he]
  have hl := h.v.len
  unfold STC
  by_cases k4 : k = 4
  · subst k4
    simp (disch := (first | omega | (simp only [List.length_append, List.length_cons, List.length_nil, List.nil_append, List.length_take, List.length_drop]; omega))) only [↓bindO_some, ↓bindO_none, ↓joinO_inl, ↓joinO_inr, ↓joinO_none, ↓outO_some, ↓outO_none, ↓cond_true, ↓cond_false, ↓cond_and, ↓cond_or, ↓cond_not, ↓cond_ite, ↓if_pos, ↓if_neg, ↓if_true, ↓if_false, List.take_length, Nat.le_refl, Bool.not_true, Bool.not_false, if_pos, if_neg, List.take_length, stop_j, decide_true, Bool.and_self]
  obtain ⟨b0, b1, _⟩ := h.b0 k4
  obtain ⟨i, rfl⟩ : ∃ i : Nat, b = (i : Int) := ⟨b.toNat, by omega⟩
  have hi : i < l.length := by omega
  obtain ⟨x, hx, hb⟩ := get_at d0 hi
  have hb2 : ∀ {β : Type} (y : Br) (f : Br → Option β), bindO (List.set l (Int.toNat (i : Int)) y)[Int.toNat (i : Int)]? f = f y := fun y f => set_at hi y f
  have hb' : ∀ {β : Type} (f : Br → Option β), bindO l[i]? f = f x := fun f => by rw [get_b d0 f hi, hx]
  have hb2' : ∀ {β : Type} (y : Br) (f : Br → Option β), bindO (List.set l i y)[i]? f = f y := fun y f => by rw [List.getElem?_set_self hi]; rfl
  have hk := h.k1
  have hk' := h.k4
  rcases (show k = 1 ∨ k = 2 ∨ k = 3 by omega) with h1 | h1 | h1 <;> subst h1
  · unfold PV
    rw [Int.toNat_natCast, hx]
    by_cases s3 : x.2.2.1 = 3
    · have s1 : ¬ x.2.2.1 = 1 := by omega
      simp (disch := (first | omega | (simp only [List.length_append, List.length_cons, List.length_nil, List.nil_append, List.length_take, List.length_drop]; omega))) only [↓bindO_some, ↓bindO_none, ↓joinO_inl, ↓joinO_inr, ↓joinO_none, ↓outO_some, ↓outO_none, ↓cond_true, ↓cond_false, ↓cond_and, ↓cond_or, ↓cond_not, ↓cond_ite, ↓if_pos, ↓if_neg, ↓if_true, ↓if_false, List.take_length, Nat.le_refl, Bool.not_true, Bool.not_false, if_pos, if_neg, ↓hb, ↓hb2, ↓hb', ↓hb2', s3, List.take_length, take_set, List.length_set, decide_true, Bool.and_self, Int.toNat_natCast]
    · by_cases s1 : x.2.2.1 = 1
      · simp (disch := (first | omega | (simp only [List.length_append, List.length_cons, List.length_nil, List.nil_append, List.length_take, List.length_drop]; omega))) only [↓bindO_some, ↓bindO_none, ↓joinO_inl, ↓joinO_inr, ↓joinO_none, ↓outO_some, ↓outO_none, ↓cond_true, ↓cond_false, ↓cond_and, ↓cond_or, ↓cond_not, ↓cond_ite, ↓if_pos, ↓if_neg, ↓if_true, ↓if_false, List.take_length, Nat.le_refl, Bool.not_true, Bool.not_false, if_pos, if_neg, ↓hb, ↓hb2, ↓hb', ↓hb2', s1, List.take_length, take_set, List.length_set, decide_true, Bool.and_self, Int.toNat_natCast]
        by_cases hc : c > 100 <;> simp (disch := (first | omega | (simp only [List.length_append, List.length_cons, List.length_nil, List.nil_append, List.length_take, List.length_drop]; omega))) only [↓bindO_some, ↓bindO_none, ↓joinO_inl, ↓joinO_inr, ↓joinO_none, ↓outO_some, ↓outO_none, ↓cond_true, ↓cond_false, ↓cond_and, ↓cond_or, ↓cond_not, ↓cond_ite, ↓if_pos, ↓if_neg, ↓if_true, ↓if_false, List.take_length, Nat.le_refl, Bool.not_true, Bool.not_false, if_pos, if_neg, take_set, List.length_set, decide_true, Bool.and_self, List.take_length]
      · simp (disch := (first | omega | (simp only [List.length_append, List.length_cons, List.length_nil, List.nil_append, List.length_take, List.length_drop]; omega))) only [↓bindO_some, ↓bindO_none, ↓joinO_inl, ↓joinO_inr, ↓joinO_none, ↓outO_some, ↓outO_none, ↓cond_true, ↓cond_false, ↓cond_and, ↓cond_or, ↓cond_not, ↓cond_ite, ↓if_pos, ↓if_neg, ↓if_true, ↓if_false, List.take_length, Nat.le_refl, Bool.not_true, Bool.not_false, if_pos, if_neg, ↓hb, ↓hb2, ↓hb', ↓hb2', s1, s3, List.take_length, take_set, List.length_set, decide_true, Bool.and_self, Int.toNat_natCast]
        by_cases s2 : x.2.2.1 = 2
        · by_cases hc : c > 100
          · simp (disch := (first | omega | (simp only [List.length_append, List.length_cons, List.length_nil, List.nil_append, List.length_take, List.length_drop]; omega))) only [↓bindO_some, ↓bindO_none, ↓joinO_inl, ↓joinO_inr, ↓joinO_none, ↓outO_some, ↓outO_none, ↓cond_true, ↓cond_false, ↓cond_and, ↓cond_or, ↓cond_not, ↓cond_ite, ↓if_pos, ↓if_neg, ↓if_true, ↓if_false, List.take_length, Nat.le_refl, Bool.not_true, Bool.not_false, if_pos, if_neg, take_set, List.length_set, decide_true, Bool.and_self, List.take_length, s2, hc, and_self]
          · simp (disch := (first | omega | (simp only [List.length_append, List.length_cons, List.length_nil, List.nil_append, List.length_take, List.length_drop]; omega))) only [↓bindO_some, ↓bindO_none, ↓joinO_inl, ↓joinO_inr, ↓joinO_none, ↓outO_some, ↓outO_none, ↓cond_true, ↓cond_false, ↓cond_and, ↓cond_or, ↓cond_not, ↓cond_ite, ↓if_pos, ↓if_neg, ↓if_true, ↓if_false, List.take_length, Nat.le_refl, Bool.not_true, Bool.not_false, if_pos, if_neg, take_set, List.length_set, decide_true, Bool.and_self, List.take_length, s2, hc, and_false, if_false]
        · simp (disch := (first | omega | (simp only [List.length_append, List.length_cons, List.length_nil, List.nil_append, List.length_take, List.length_drop]; omega))) only [↓bindO_some, ↓bindO_none, ↓joinO_inl, ↓joinO_inr, ↓joinO_none, ↓outO_some, ↓outO_none, ↓cond_true, ↓cond_false, ↓cond_and, ↓cond_or, ↓cond_not, ↓cond_ite, ↓if_pos, ↓if_neg, ↓if_true, ↓if_false, List.take_length, Nat.le_refl, Bool.not_true, Bool.not_false, if_pos, if_neg, take_set, List.length_set, decide_true, Bool.and_self, List.take_length, s2, false_and, if_false]
  · unfold FIN
    rw [Int.toNat_natCast]
    let F := fs l i c
    have hFd : fs l i c = F := rfl
    have hF : List.set l i (x.1, (x.2.1, (5, c))) = F := by rw [← hFd]; unfold fs; rw [hx]
    have hFl : F.length = l.length := fs_len l i c
    clear_value F
    have hFt : List.take l.length F = F := by rw [← hFl, List.take_length]
    have hF1 : F.length ≤ 1000 := by omega
    have hS1 : (F.map fst1).length = l.length := by rw [List.length_map, hFl]
    have hS2 : (F.map fst1).length ≤ 1000 := by omega
    have hacl : (ac pRg 2 F l.length).length ≤ 100 := by have := ac_len pRg 2 F l.length; omega
    rw [hFd]
    have hg := fun l' (hl' : l'.length = l.length) b3 b4 b5 => (show (GO l' b3 b4 b5).2.2.length ≤ 1001 by have := GO_len l' b3 b4 b5; omega)
    by_cases g1 : c < 300
    · cases a5
      · cases a3
        · have g2 : (c < 300 ∧ false = false ∧ false = false) := ⟨g1, rfl, rfl⟩
          rw [if_pos g2]
          simp (disch := (first | omega | (simp only [List.length_append, List.length_cons, List.length_nil, List.nil_append, List.length_take, List.length_drop]; omega))) only [↓bindO_some, ↓bindO_none, ↓joinO_inl, ↓joinO_inr, ↓joinO_none, ↓outO_some, ↓outO_none, ↓cond_true, ↓cond_false, ↓cond_and, ↓cond_or, ↓cond_not, ↓cond_ite, ↓if_pos, ↓if_neg, ↓if_true, ↓if_false, List.take_length, Nat.le_refl, Bool.not_true, Bool.not_false, if_pos, if_neg, ↓hb, ↓hb2, ↓hb', ↓hb2', List.set_set, List.take_length, take_set, List.length_set, decide_true, Bool.and_self, Bool.true_and, Bool.and_true, Int.toNat_natCast, hF, hFl, hFt, goOn_j, stop_j, skip_j, goP_j, ps_j, sk_j, List.nil_append, List.cons_append, List.append_nil]
        · have g2 : ¬ (c < 300 ∧ false = false ∧ true = false) := fun h => by cases h.2.2
          have hg1 := hg F hFl true a4 false
          rw [if_neg g2, if_pos g1]
          simp (disch := (first | omega | (simp only [List.length_append, List.length_cons, List.length_nil, List.nil_append, List.length_take, List.length_drop]; omega))) only [↓bindO_some, ↓bindO_none, ↓joinO_inl, ↓joinO_inr, ↓joinO_none, ↓outO_some, ↓outO_none, ↓cond_true, ↓cond_false, ↓cond_and, ↓cond_or, ↓cond_not, ↓cond_ite, ↓if_pos, ↓if_neg, ↓if_true, ↓if_false, List.take_length, Nat.le_refl, Bool.not_true, Bool.not_false, if_pos, if_neg, ↓hb, ↓hb2, ↓hb', ↓hb2', List.set_set, List.take_length, take_set, List.length_set, decide_true, Bool.and_self, Bool.true_and, Bool.and_true, Int.toNat_natCast, hF, hFl, hFt, goOn_j, stop_j, skip_j, goP_j, ps_j, sk_j, List.nil_append, List.cons_append, List.append_nil]
      · have g2 : ¬ (c < 300 ∧ true = false ∧ a3 = false) := fun h => by cases h.2.1
        have hg1 := hg F hFl a3 a4 true
        rw [if_neg g2, if_pos g1]
        simp (disch := (first | omega | (simp only [List.length_append, List.length_cons, List.length_nil, List.nil_append, List.length_take, List.length_drop]; omega))) only [↓bindO_some, ↓bindO_none, ↓joinO_inl, ↓joinO_inr, ↓joinO_none, ↓outO_some, ↓outO_none, ↓cond_true, ↓cond_false, ↓cond_and, ↓cond_or, ↓cond_not, ↓cond_ite, ↓if_pos, ↓if_neg, ↓if_true, ↓if_false, List.take_length, Nat.le_refl, Bool.not_true, Bool.not_false, if_pos, if_neg, ↓hb, ↓hb2, ↓hb', ↓hb2', List.set_set, List.take_length, take_set, List.length_set, decide_true, Bool.and_self, Bool.true_and, Bool.and_true, Int.toNat_natCast, hF, hFl, hFt, goOn_j, stop_j, skip_j, goP_j, ps_j, sk_j, List.nil_append, List.cons_append, List.append_nil]
    · have g2 : ¬ (c < 300 ∧ a5 = false ∧ a3 = false) := fun h => g1 h.1
      rw [if_neg g2, if_neg g1]
      by_cases g3 : c ≥ 600
      · have hg1 := hg (F.map fst1) hS1 a3 true a5
        rw [if_pos g3]
        simp (disch := (first | omega | (simp only [List.length_append, List.length_cons, List.length_nil, List.nil_append, List.length_take, List.length_drop]; omega))) only [↓bindO_some, ↓bindO_none, ↓joinO_inl, ↓joinO_inr, ↓joinO_none, ↓outO_some, ↓outO_none, ↓cond_true, ↓cond_false, ↓cond_and, ↓cond_or, ↓cond_not, ↓cond_ite, ↓if_pos, ↓if_neg, ↓if_true, ↓if_false, List.take_length, Nat.le_refl, Bool.not_true, Bool.not_false, if_pos, if_neg, ↓hb, ↓hb2, ↓hb', ↓hb2', List.set_set, List.take_length, take_set, List.length_set, decide_true, Bool.and_self, Bool.true_and, Bool.and_true, Int.toNat_natCast, hF, hFl, hFt, goOn_j, stop_j, skip_j, goP_j, ps_j, sk_j, List.nil_append, List.cons_append, List.append_nil, hS1]
      · have hg1 := hg F hFl a3 a4 a5
        rw [if_neg g3]
        simp (disch := (first | omega | (simp only [List.length_append, List.length_cons, List.length_nil, List.nil_append, List.length_take, List.length_drop]; omega))) only [↓bindO_some, ↓bindO_none, ↓joinO_inl, ↓joinO_inr, ↓joinO_none, ↓outO_some, ↓outO_none, ↓cond_true, ↓cond_false, ↓cond_and, ↓cond_or, ↓cond_not, ↓cond_ite, ↓if_pos, ↓if_neg, ↓if_true, ↓if_false, List.take_length, Nat.le_refl, Bool.not_true, Bool.not_false, if_pos, if_neg, ↓hb, ↓hb2, ↓hb', ↓hb2', List.set_set, List.take_length, take_set, List.length_set, decide_true, Bool.and_self, Bool.true_and, Bool.and_true, Int.toNat_natCast, hF, hFl, hFt, goOn_j, stop_j, skip_j, goP_j, ps_j, sk_j, List.nil_append, List.cons_append, List.append_nil]
  · unfold FIN
    rw [Int.toNat_natCast]
    let F := fs l i 408
    have hFd : fs l i 408 = F := rfl
    have hF : List.set l i (x.1, (x.2.1, (5, 408))) = F := by rw [← hFd]; unfold fs; rw [hx]
    have hFl : F.length = l.length := fs_len l i 408
    clear_value F
    have hFt : List.take l.length F = F := by rw [← hFl, List.take_length]
    have hF1 : F.length ≤ 1000 := by omega
    have hS1 : (F.map fst1).length = l.length := by rw [List.length_map, hFl]
    have hS2 : (F.map fst1).length ≤ 1000 := by omega
    have hacl : (ac pRg 2 F l.length).length ≤ 100 := by have := ac_len pRg 2 F l.length; omega
    rw [hFd]
    have hg := fun l' (hl' : l'.length = l.length) b3 b4 b5 => (show (GO l' b3 b4 b5).2.2.length ≤ 1001 by have := GO_len l' b3 b4 b5; omega)
    have g1 : ¬ ((408 : Int) < 300) := by decide
    have g2 : ¬ ((408 : Int) < 300 ∧ a5 = false ∧ a3 = false) := fun h => g1 h.1
    have g3 : ¬ ((408 : Int) ≥ 600) := by decide
    have hg1 := hg F hFl a3 a4 a5
    rw [if_neg g2, if_neg g1, if_neg g3]
    simp (disch := (first | omega | (simp only [List.length_append, List.length_cons, List.length_nil, List.nil_append, List.length_take, List.length_drop]; omega))) only [↓bindO_some, ↓bindO_none, ↓joinO_inl, ↓joinO_inr, ↓joinO_none, ↓outO_some, ↓outO_none, ↓cond_true, ↓cond_false, ↓cond_and, ↓cond_or, ↓cond_not, ↓cond_ite, ↓if_pos, ↓if_neg, ↓if_true, ↓if_false, List.take_length, Nat.le_refl, Bool.not_true, Bool.not_false, if_pos, if_neg, ↓hb, ↓hb2, ↓hb', ↓hb2', List.set_set, List.take_length, take_set, List.length_set, decide_true, Bool.and_self, Bool.true_and, Bool.and_true, Int.toNat_natCast, hF, hFl, hFt, goOn_j, stop_j, skip_j, goP_j, ps_j, sk_j, List.nil_append, List.cons_append, List.append_nil]
theorem stepP_j {l : List Br} {a2 : Int} {a3 a4 a5 : Bool} {k b c : Int} (h : CKO l a2 a3 a4 a5 k b c) (he : fork_check ((l, (a2, (a3, (a4, a5)))), (k, (b, c))) = some 0) :
    fork_Step ((l, (a2, (a3, (a4, a5)))), (k, (b, c))) = some ((STC l a2 a3 a4 a5 k b c).1, ((STC l a2 a3 a4 a5 k b c).2, 0)) := by
  have hl := h.v.len
  rw [pstep_eq, he]
  simp only [bindO_some]
  rw [show (decide ((0 : Int) ≠ 0)) = false from rfl, cond_false, clone_b l _ (by omega)]
  have hps := fun {γ : Type} => ps_j (γ := γ) (l := l) (L := l) rfl (by omega)
  unfold STC
  by_cases k4 : k = 4
  · subst k4
    simp (disch := (first | omega | (simp only [List.length_append, List.length_cons, List.length_nil, List.nil_append, List.length_take, List.length_drop]; omega))) only [↓bindO_some, ↓bindO_none, ↓joinO_inl, ↓joinO_inr, ↓joinO_none, ↓outO_some, ↓outO_none, ↓cond_true, ↓cond_false, ↓cond_and, ↓cond_or, ↓cond_not, ↓cond_ite, ↓if_pos, ↓if_neg, ↓if_true, ↓if_false, List.take_length, Nat.le_refl, Bool.not_true, Bool.not_false, if_pos, if_neg, List.take_length, stop_j, decide_true, Bool.and_self]
    rw [hps _ _ _ _ (by simp)]
    simp (disch := (first | omega | (simp only [List.length_append, List.length_cons, List.length_nil, List.nil_append, List.length_take, List.length_drop]; omega))) only [↓bindO_some, ↓bindO_none, ↓joinO_inl, ↓joinO_inr, ↓joinO_none, ↓outO_some, ↓outO_none, ↓cond_true, ↓cond_false, ↓cond_and, ↓cond_or, ↓cond_not, ↓cond_ite, ↓if_pos, ↓if_neg, ↓if_true, ↓if_false, List.take_length, Nat.le_refl, Bool.not_true, Bool.not_false, List.nil_append]
  obtain ⟨b0, b1, _⟩ := h.b0 k4
  obtain ⟨i, rfl⟩ : ∃ i : Nat, b = (i : Int) := ⟨b.toNat, by omega⟩
  have hi : i < l.length := by omega
  obtain ⟨x, hx, hb⟩ := get_at d0 hi
  have hb2 : ∀ {β : Type} (y : Br) (f : Br → Option β), bindO (List.set l (Int.toNat (i : Int)) y)[Int.toNat (i : Int)]? f = f y := fun y f => set_at hi y f
  have hb' : ∀ {β : Type} (f : Br → Option β), bindO l[i]? f = f x := fun f => by rw [get_b d0 f hi, hx]
  have hb2' : ∀ {β : Type} (y : Br) (f : Br → Option β), bindO (List.set l i y)[i]? f = f y := fun y f => by rw [List.getElem?_set_self hi]; rfl
  have hk := h.k1
  have hk' := h.k4
  rcases (show k = 1 ∨ k = 2 ∨ k = 3 by omega) with h1 | h1 | h1 <;> subst h1
  · unfold PV
    rw [Int.toNat_natCast, hx]
    by_cases s3 : x.2.2.1 = 3
    · have s1 : ¬ x.2.2.1 = 1 := by omega
      simp (disch := (first | omega | (simp only [List.length_append, List.length_cons, List.length_nil, List.nil_append, List.length_take, List.length_drop]; omega))) only [↓bindO_some, ↓bindO_none, ↓joinO_inl, ↓joinO_inr, ↓joinO_none, ↓outO_some, ↓outO_none, ↓cond_true, ↓cond_false, ↓cond_and, ↓cond_or, ↓cond_not, ↓cond_ite, ↓if_pos, ↓if_neg, ↓if_true, ↓if_false, List.take_length, Nat.le_refl, Bool.not_true, Bool.not_false, if_pos, if_neg, ↓hb, ↓hb2, ↓hb', ↓hb2', s3, List.take_length, take_set, List.length_set, decide_true, Bool.and_self, Int.toNat_natCast]
    · by_cases s1 : x.2.2.1 = 1
      · simp (disch := (first | omega | (simp only [List.length_append, List.length_cons, List.length_nil, List.nil_append, List.length_take, List.length_drop]; omega))) only [↓bindO_some, ↓bindO_none, ↓joinO_inl, ↓joinO_inr, ↓joinO_none, ↓outO_some, ↓outO_none, ↓cond_true, ↓cond_false, ↓cond_and, ↓cond_or, ↓cond_not, ↓cond_ite, ↓if_pos, ↓if_neg, ↓if_true, ↓if_false, List.take_length, Nat.le_refl, Bool.not_true, Bool.not_false, if_pos, if_neg, ↓hb, ↓hb2, ↓hb', ↓hb2', s1, List.take_length, take_set, List.length_set, decide_true, Bool.and_self, Int.toNat_natCast]
        by_cases hc : c > 100 <;> simp (disch := (first | omega | (simp only [List.length_append, List.length_cons, List.length_nil, List.nil_append, List.length_take, List.length_drop]; omega))) only [↓bindO_some, ↓bindO_none, ↓joinO_inl, ↓joinO_inr, ↓joinO_none, ↓outO_some, ↓outO_none, ↓cond_true, ↓cond_false, ↓cond_and, ↓cond_or, ↓cond_not, ↓cond_ite, ↓if_pos, ↓if_neg, ↓if_true, ↓if_false, List.take_length, Nat.le_refl, Bool.not_true, Bool.not_false, if_pos, if_neg, take_set, List.length_set, decide_true, Bool.and_self, List.take_length]
      · simp (disch := (first | omega | (simp only [List.length_append, List.length_cons, List.length_nil, List.nil_append, List.length_take, List.length_drop]; omega))) only [↓bindO_some, ↓bindO_none, ↓joinO_inl, ↓joinO_inr, ↓joinO_none, ↓outO_some, ↓outO_none, ↓cond_true, ↓cond_false, ↓cond_and, ↓cond_or, ↓cond_not, ↓cond_ite, ↓if_pos, ↓if_neg, ↓if_true, ↓if_false, List.take_length, Nat.le_refl, Bool.not_true, Bool.not_false, if_pos, if_neg, ↓hb, ↓hb2, ↓hb', ↓hb2', s1, s3, List.take_length, take_set, List.length_set, decide_true, Bool.and_self, Int.toNat_natCast]
        by_cases s2 : x.2.2.1 = 2
        · by_cases hc : c > 100
          · simp (disch := (first | omega | (simp only [List.length_append, List.length_cons, List.length_nil, List.nil_append, List.length_take, List.length_drop]; omega))) only [↓bindO_some, ↓bindO_none, ↓joinO_inl, ↓joinO_inr, ↓joinO_none, ↓outO_some, ↓outO_none, ↓cond_true, ↓cond_false, ↓cond_and, ↓cond_or, ↓cond_not, ↓cond_ite, ↓if_pos, ↓if_neg, ↓if_true, ↓if_false, List.take_length, Nat.le_refl, Bool.not_true, Bool.not_false, if_pos, if_neg, take_set, List.length_set, decide_true, Bool.and_self, List.take_length, s2, hc, and_self]
          · simp (disch := (first | omega | (simp only [List.length_append, List.length_cons, List.length_nil, List.nil_append, List.length_take, List.length_drop]; omega))) only [↓bindO_some, ↓bindO_none, ↓joinO_inl, ↓joinO_inr, ↓joinO_none, ↓outO_some, ↓outO_none, ↓cond_true, ↓cond_false, ↓cond_and, ↓cond_or, ↓cond_not, ↓cond_ite, ↓if_pos, ↓if_neg, ↓if_true, ↓if_false, List.take_length, Nat.le_refl, Bool.not_true, Bool.not_false, if_pos, if_neg, take_set, List.length_set, decide_true, Bool.and_self, List.take_length, s2, hc, and_false, if_false]
        · simp (disch := (first | omega | (simp only [List.length_append, List.length_cons, List.length_nil, List.nil_append, List.length_take, List.length_drop]; omega))) only [↓bindO_some, ↓bindO_none, ↓joinO_inl, ↓joinO_inr, ↓joinO_none, ↓outO_some, ↓outO_none, ↓cond_true, ↓cond_false, ↓cond_and, ↓cond_or, ↓cond_not, ↓cond_ite, ↓if_pos, ↓if_neg, ↓if_true, ↓if_false, List.take_length, Nat.le_refl, Bool.not_true, Bool.not_false, if_pos, if_neg, take_set, List.length_set, decide_true, Bool.and_self, List.take_length, s2, false_and, if_false]
  · unfold FIN
    rw [Int.toNat_natCast]
    let F := fs l i c
    have hFd : fs l i c = F := rfl
    have hF : List.set l i (x.1, (x.2.1, (5, c))) = F := by rw [← hFd]; unfold fs; rw [hx]
    have hFl : F.length = l.length := fs_len l i c
    clear_value F
    have hFt : List.take l.length F = F := by rw [← hFl, List.take_length]
    have hF1 : F.length ≤ 1000 := by omega
    have hS1 : (F.map fst1).length = l.length := by rw [List.length_map, hFl]
    have hS2 : (F.map fst1).length ≤ 1000 := by omega
    have hacl : (ac pRg 2 F l.length).length ≤ 100 := by have := ac_len pRg 2 F l.length; omega
    rw [hFd]
    have hg := fun l' (hl' : l'.length = l.length) b3 b4 b5 => (show (GO l' b3 b4 b5).2.2.length ≤ 1001 by have := GO_len l' b3 b4 b5; omega)
    by_cases g1 : c < 300
    · cases a5
      · cases a3
        · have g2 : (c < 300 ∧ false = false ∧ false = false) := ⟨g1, rfl, rfl⟩
          have hS3 : ((F.map fst1).map fsk).length = l.length := by rw [List.length_map, hS1]
          have hT3 : List.take l.length ((F.map fst1).map fsk) = (F.map fst1).map fsk := by rw [← hS3, List.take_length]
          rw [if_pos g2]
          simp (disch := (first | omega | (simp only [List.length_append, List.length_cons, List.length_nil, List.nil_append, List.length_take, List.length_drop]; omega))) only [↓bindO_some, ↓bindO_none, ↓joinO_inl, ↓joinO_inr, ↓joinO_none, ↓outO_some, ↓outO_none, ↓cond_true, ↓cond_false, ↓cond_and, ↓cond_or, ↓cond_not, ↓cond_ite, ↓if_pos, ↓if_neg, ↓if_true, ↓if_false, List.take_length, Nat.le_refl, Bool.not_true, Bool.not_false, if_pos, if_neg, ↓hb, ↓hb2, ↓hb', ↓hb2', List.set_set, List.take_length, take_set, List.length_set, decide_true, Bool.and_self, Bool.true_and, Bool.and_true, Int.toNat_natCast, hF, hFl, hFt, goOn_j, stop_j, skip_j, goP_j, ps_j, sk_j, List.nil_append, List.cons_append, List.append_nil, hS1, hS3, hT3, GO_done]
        · have g2 : ¬ (c < 300 ∧ false = false ∧ true = false) := fun h => by cases h.2.2
          have hg1 := hg F hFl true a4 false
          rw [if_neg g2, if_pos g1]
          simp (disch := (first | omega | (simp only [List.length_append, List.length_cons, List.length_nil, List.nil_append, List.length_take, List.length_drop]; omega))) only [↓bindO_some, ↓bindO_none, ↓joinO_inl, ↓joinO_inr, ↓joinO_none, ↓outO_some, ↓outO_none, ↓cond_true, ↓cond_false, ↓cond_and, ↓cond_or, ↓cond_not, ↓cond_ite, ↓if_pos, ↓if_neg, ↓if_true, ↓if_false, List.take_length, Nat.le_refl, Bool.not_true, Bool.not_false, if_pos, if_neg, ↓hb, ↓hb2, ↓hb', ↓hb2', List.set_set, List.take_length, take_set, List.length_set, decide_true, Bool.and_self, Bool.true_and, Bool.and_true, Int.toNat_natCast, hF, hFl, hFt, goOn_j, stop_j, skip_j, goP_j, ps_j, sk_j, List.nil_append, List.cons_append, List.append_nil]
      · have g2 : ¬ (c < 300 ∧ true = false ∧ a3 = false) := fun h => by cases h.2.1
        have hg1 := hg F hFl a3 a4 true
        rw [if_neg g2, if_pos g1]
        simp (disch := (first | omega | (simp only [List.length_append, List.length_cons, List.length_nil, List.nil_append, List.length_take, List.length_drop]; omega))) only [↓bindO_some, ↓bindO_none, ↓joinO_inl, ↓joinO_inr, ↓joinO_none, ↓outO_some, ↓outO_none, ↓cond_true, ↓cond_false, ↓cond_and, ↓cond_or, ↓cond_not, ↓cond_ite, ↓if_pos, ↓if_neg, ↓if_true, ↓if_false, List.take_length, Nat.le_refl, Bool.not_true, Bool.not_false, if_pos, if_neg, ↓hb, ↓hb2, ↓hb', ↓hb2', List.set_set, List.take_length, take_set, List.length_set, decide_true, Bool.and_self, Bool.true_and, Bool.and_true, Int.toNat_natCast, hF, hFl, hFt, goOn_j, stop_j, skip_j, goP_j, ps_j, sk_j, List.nil_append, List.cons_append, List.append_nil]
    · have g2 : ¬ (c < 300 ∧ a5 = false ∧ a3 = false) := fun h => g1 h.1
      rw [if_neg g2, if_neg g1]
      by_cases g3 : c ≥ 600
      · have hg1 := hg (F.map fst1) hS1 a3 true a5
        rw [if_pos g3]
        simp (disch := (first | omega | (simp only [List.length_append, List.length_cons, List.length_nil, List.nil_append, List.length_take, List.length_drop]; omega))) only [↓bindO_some, ↓bindO_none, ↓joinO_inl, ↓joinO_inr, ↓joinO_none, ↓outO_some, ↓outO_none, ↓cond_true, ↓cond_false, ↓cond_and, ↓cond_or, ↓cond_not, ↓cond_ite, ↓if_pos, ↓if_neg, ↓if_true, ↓if_false, List.take_length, Nat.le_refl, Bool.not_true, Bool.not_false, if_pos, if_neg, ↓hb, ↓hb2, ↓hb', ↓hb2', List.set_set, List.take_length, take_set, List.length_set, decide_true, Bool.and_self, Bool.true_and, Bool.and_true, Int.toNat_natCast, hF, hFl, hFt, goOn_j, stop_j, skip_j, goP_j, ps_j, sk_j, List.nil_append, List.cons_append, List.append_nil, hS1]
      · have hg1 := hg F hFl a3 a4 a5
        rw [if_neg g3]
        simp (disch := (first | omega | (simp only [List.length_append, List.length_cons, List.length_nil, List.nil_append, List.length_take, List.length_drop]; omega))) only [↓bindO_some, ↓bindO_none, ↓joinO_inl, ↓joinO_inr, ↓joinO_none, ↓outO_some, ↓outO_none, ↓cond_true, ↓cond_false, ↓cond_and, ↓cond_or, ↓cond_not, ↓cond_ite, ↓if_pos, ↓if_neg, ↓if_true, ↓if_false, List.take_length, Nat.le_refl, Bool.not_true, Bool.not_false, if_pos, if_neg, ↓hb, ↓hb2, ↓hb', ↓hb2', List.set_set, List.take_length, take_set, List.length_set, decide_true, Bool.and_self, Bool.true_and, Bool.and_true, Int.toNat_natCast, hF, hFl, hFt, goOn_j, stop_j, skip_j, goP_j, ps_j, sk_j, List.nil_append, List.cons_append, List.append_nil]
  · unfold FIN
    rw [Int.toNat_natCast]
    let F := fs l i 408
    have hFd : fs l i 408 = F := rfl
    have hF : List.set l i (x.1, (x.2.1, (5, 408))) = F := by rw [← hFd]; unfold fs; rw [hx]
    have hFl : F.length = l.length := fs_len l i 408
    clear_value F
    have hFt : List.take l.length F = F := by rw [← hFl, List.take_length]
    have hF1 : F.length ≤ 1000 := by omega
    have hS1 : (F.map fst1).length = l.length := by rw [List.length_map, hFl]
    have hS2 : (F.map fst1).length ≤ 1000 := by omega
    have hacl : (ac pRg 2 F l.length).length ≤ 100 := by have := ac_len pRg 2 F l.length; omega
    rw [hFd]
    have hg := fun l' (hl' : l'.length = l.length) b3 b4 b5 => (show (GO l' b3 b4 b5).2.2.length ≤ 1001 by have := GO_len l' b3 b4 b5; omega)
    have g1 : ¬ ((408 : Int) < 300) := by decide
    have g2 : ¬ ((408 : Int) < 300 ∧ a5 = false ∧ a3 = false) := fun h => g1 h.1
    have g3 : ¬ ((408 : Int) ≥ 600) := by decide
    have hg1 := hg F hFl a3 a4 a5
    rw [if_neg g2, if_neg g1, if_neg g3]
    simp (disch := (first | omega | (simp only [List.length_append, List.length_cons, List.length_nil, List.nil_append, List.length_take, List.length_drop]; omega))) only [↓bindO_some, ↓bindO_none, ↓joinO_inl, ↓joinO_inr, ↓joinO_none, ↓outO_some, ↓outO_none, ↓cond_true, ↓cond_false, ↓cond_and, ↓cond_or, ↓cond_not, ↓cond_ite, ↓if_pos, ↓if_neg, ↓if_true, ↓if_false, List.take_length, Nat.le_refl, Bool.not_true, Bool.not_false, if_pos, if_neg, ↓hb, ↓hb2, ↓hb', ↓hb2', List.set_set, List.take_length, take_set, List.length_set, decide_true, Bool.and_self, Bool.true_and, Bool.and_true, Int.toNat_natCast, hF, hFl, hFt, goOn_j, stop_j, skip_j, goP_j, ps_j, sk_j, List.nil_append, List.cons_append, List.append_nil]
end Go.Proofs.Ytheicchelhjcjaa
