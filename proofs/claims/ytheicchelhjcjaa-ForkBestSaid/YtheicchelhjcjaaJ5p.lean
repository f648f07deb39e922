import Derived.Test.YtheicchelhjcjaaJ4p
set_option linter.unusedVariables false
set_option linter.unusedSimpArgs false
set_option maxRecDepth 100000
namespace Go.Proofs.Ytheicchelhjcjaa
open Go.RowKit
noncomputable def goP {γ : Type} (v79 : List Br) (v80 : Int) (v81 v82 v83 : Bool) (v84 : List Ac) : Option (Ps ⊕ γ) :=
 joinO (joinO (loopO (poB v79) (0 : Int)) fun _ =>
 some (Sum.inl (-1 : Int))) fun v89 =>
 bif v83 then
 bif ((decide ((List.length v79) ≤ (List.length v79))) && (decide ((List.length v84) ≤ (List.length v84)))) then 
 some (Sum.inl ((List.take (List.length v79) v79), (v80, (v81, (v82, (v83, (List.take (List.length v84) v84)))))))
 else none
 else
 bif (decide (v89 ≥ (0 : Int))) then
 bif ((decide ((List.length v79) ≤ (List.length v79))) && (decide ((List.length v84) ≤ (List.length v84)))) then 
 some (Sum.inl ((List.take (List.length v79) v79), (v80, (v81, (v82, (v83, (List.take (List.length v84) v84)))))))
 else none
 else
 joinO (joinO (loopO (pfB v79) (0 : Int)) fun _ =>
 some (Sum.inl (-1 : Int))) fun v93 =>
 bif v82 then
 joinO (loopO (skB v79) ((0 : Int), v79)) fun v100 =>
 bif (decide ((List.length v79) ≤ (List.length v100))) then 
 bindO (fork_Best ((List.take (List.length v79) v100), (v80, (v81, (v82, Bool.true))))) fun x101 =>
 bif (decide ((List.length v84) ≤ (List.length v84))) then 
 bif (decide (((List.length ((List.take (List.length v84) v84) ++ (((6 : Int), ((-1 : Int), x101)) :: ([] : List (Int × (Int × Int)))))) * 24) ≤ 140737488355328)) then 
 bindO (some ((List.take (List.length v84) v84) ++ (((6 : Int), ((-1 : Int), x101)) :: ([] : List (Int × (Int × Int)))))) fun x102 =>
 bif ((decide ((List.length v79) ≤ (List.length v100))) && (decide ((List.length x102) ≤ (List.length x102)))) then 
 some (Sum.inl ((List.take (List.length v79) v100), (v80, (v81, (v82, (Bool.true, (List.take (List.length x102) x102)))))))
 else none
 else none
 else none
 else none
 else
 bif (decide (v93 < (0 : Int))) then
 joinO (loopO (skB v79) ((0 : Int), v79)) fun v109 =>
 bif (decide ((List.length v79) ≤ (List.length v109))) then 
 bindO (fork_Best ((List.take (List.length v79) v109), (v80, (v81, (v82, Bool.true))))) fun x110 =>
 bif (decide ((List.length v84) ≤ (List.length v84))) then 
 bif (decide (((List.length ((List.take (List.length v84) v84) ++ (((6 : Int), ((-1 : Int), x110)) :: ([] : List (Int × (Int × Int)))))) * 24) ≤ 140737488355328)) then 
 bindO (some ((List.take (List.length v84) v84) ++ (((6 : Int), ((-1 : Int), x110)) :: ([] : List (Int × (Int × Int)))))) fun x111 =>
 bif ((decide ((List.length v79) ≤ (List.length v109))) && (decide ((List.length x111) ≤ (List.length x111)))) then 
 some (Sum.inl ((List.take (List.length v79) v109), (v80, (v81, (v82, (Bool.true, (List.take (List.length x111) x111)))))))
 else none
 else none
 else none
 else none
 else
 bif (decide (((0 : Int) ≤ v93) ∧ (v93 < (((List.length v79) : Nat) : Int)))) then 
 bindO v79[(Int.toNat v93)]? fun x112 =>
 bif ((decide ((List.length v79) ≤ (List.length v79))) && (decide ((List.length v84) ≤ (List.length v84)))) then 
 loopO (pgB v79 x112) ((0 : Int), ((List.take (List.length v79) v79), (v80, (v81, (v82, (v83, (List.take (List.length v84) v84)))))))
 else none
 else none
open Classical in

noncomputable def fdx (p : Br → Prop) (l : List Br) : Int := if h : ∃ i, i < l.length ∧ p (l.getD i d0) then ((Classical.choose (least h) : Nat) : Int) else -1
theorem fdx_neg {p : Br → Prop} {l : List Br} : fdx p l < 0 ↔ ¬ ∃ i, i < l.length ∧ p (l.getD i d0) := by
  unfold fdx
  split
  · rename_i h
    exact ⟨fun g => by omega, fun g => (g h).elim⟩
  · rename_i h
    exact ⟨fun _ => h, fun _ => by omega⟩
theorem fdx_pos {p : Br → Prop} {l : List Br} (h : 0 ≤ fdx p l) : ∃ i : Nat, fdx p l = (i : Int) ∧ i < l.length ∧ p (l.getD i d0) := by
  unfold fdx at h ⊢
  split
  · rename_i g
    have := (Classical.choose_spec (least g)).1
    exact ⟨_, rfl, this.1, this.2⟩
  · rename_i g
    rw [dif_neg g] at h
    omega
theorem loopO_find {δ : Type} {body : Int → Option (Int ⊕ (Unit ⊕ δ))} (p : Br → Prop) (l : List Br) (g : Int → δ) (h1 : ∀ i : Nat, i < l.length → ¬ p (l.getD i d0) → body (i : Int) = some (.inl ((i + 1 : Nat) : Int)))
    (h2 : ∀ i : Nat, i < l.length → p (l.getD i d0) → body (i : Int) = some (.inr (.inr (g (i : Int))))) (h3 : body ((l.length : Nat) : Int) = some (.inr (.inl ()))) :
    loopO body (0 : Int) = some (if fdx p l < 0 then .inl () else .inr (g (fdx p l))) := by
  by_cases h : ∃ i, i < l.length ∧ p (l.getD i d0)
  · have e : fdx p l = ((Classical.choose (least h) : Nat) : Int) := by unfold fdx; rw [dif_pos h]
    have hs := Classical.choose_spec (least h)
    rw [e]
    generalize Classical.choose (least h) = k at *
    rw [if_neg (by omega)]
    exact loopO_from (fun k => ((k : Nat) : Int)) k rfl (fun i hi => h1 i (by omega) fun hb => hs.2 i hi ⟨by omega, hb⟩) (h2 k hs.1.1 hs.1.2)
  · rw [if_pos (fdx_neg.2 h)]
    exact loopO_from (fun k => ((k : Nat) : Int)) l.length rfl (fun i hi => h1 i hi fun hb => h ⟨i, hi, hb⟩) h3
theorem open_j (s : Int) : fork_open s = some (decide (1 ≤ s ∧ s ≤ 4)) := by
  unfold fork_open fork_live
  by_cases h1 : s = 1
  · subst h1; rfl
  by_cases h2 : s = 2
  · subst h2; rfl
  by_cases h3 : s = 3
  · subst h3; rfl
  by_cases h4 : s = 4
  · subst h4; rfl
  have h5 : ¬ (1 ≤ s ∧ s ≤ 4) := by omega
  rw [decide_eq_false h5]
  simp [h1, h2, h3, h4, bindO]
theorem open_b {β : Type} (s : Int) (f : Bool → Option β) : bindO (fork_open s) f = f (decide (1 ≤ s ∧ s ≤ 4)) := by rw [open_j]; rfl
abbrev Wa (x : Br) : Prop := x.2.2.1 = 0
theorem po_j {γ : Type} (l : List Br) (hl : l.length ≤ 1000) : loopO (poB (γ := γ) l) (0 : Int) = some (if fdx Op l < 0 then .inl () else .inr (.inl (fdx Op l))) :=
  loopO_find (body := poB (γ := γ) l) Op l (fun v => .inl v)
    (fun i hi hb => by
      unfold poB
      simp (disch := (first | omega | (simp only [List.length_append, List.length_cons, List.length_nil, List.nil_append, List.length_take, List.length_drop]; omega))) only [↓bindO_some, ↓bindO_none, ↓joinO_inl, ↓joinO_inr, ↓joinO_none, ↓outO_some, ↓outO_none, ↓cond_true, ↓cond_false, ↓cond_and, ↓cond_or, ↓cond_not, ↓cond_ite, ↓if_pos, ↓if_neg, ↓if_true, ↓if_false, List.take_length, Nat.le_refl, Bool.not_true, Bool.not_false, ↓get_bz d0, Int.toNat_natCast, ↓open_b, wrap_i64', decide_eq_false hb]
      rfl)
    (fun i hi hb => by
      unfold poB
      simp (disch := (first | omega | (simp only [List.length_append, List.length_cons, List.length_nil, List.nil_append, List.length_take, List.length_drop]; omega))) only [↓bindO_some, ↓bindO_none, ↓joinO_inl, ↓joinO_inr, ↓joinO_none, ↓outO_some, ↓outO_none, ↓cond_true, ↓cond_false, ↓cond_and, ↓cond_or, ↓cond_not, ↓cond_ite, ↓if_pos, ↓if_neg, ↓if_true, ↓if_false, List.take_length, Nat.le_refl, Bool.not_true, Bool.not_false, ↓get_bz d0, Int.toNat_natCast, ↓open_b, wrap_i64', decide_eq_true hb])
    (by unfold poB; simp (disch := (first | omega | (simp only [List.length_append, List.length_cons, List.length_nil, List.nil_append, List.length_take, List.length_drop]; omega))) only [↓bindO_some, ↓bindO_none, ↓joinO_inl, ↓joinO_inr, ↓joinO_none, ↓outO_some, ↓outO_none, ↓cond_true, ↓cond_false, ↓cond_and, ↓cond_or, ↓cond_not, ↓cond_ite, ↓if_pos, ↓if_neg, ↓if_true, ↓if_false, List.take_length, Nat.le_refl, Bool.not_true, Bool.not_false])
theorem pf_j {γ : Type} (l : List Br) (hl : l.length ≤ 1000) : loopO (pfB (γ := γ) l) (0 : Int) = some (if fdx Wa l < 0 then .inl () else .inr (.inl (fdx Wa l))) :=
  loopO_find (body := pfB (γ := γ) l) Wa l (fun v => .inl v)
    (fun i hi hb => by
      unfold pfB
      simp (disch := (first | omega | (simp only [List.length_append, List.length_cons, List.length_nil, List.nil_append, List.length_take, List.length_drop]; omega))) only [↓bindO_some, ↓bindO_none, ↓joinO_inl, ↓joinO_inr, ↓joinO_none, ↓outO_some, ↓outO_none, ↓cond_true, ↓cond_false, ↓cond_and, ↓cond_or, ↓cond_not, ↓cond_ite, ↓if_pos, ↓if_neg, ↓if_true, ↓if_false, List.take_length, Nat.le_refl, Bool.not_true, Bool.not_false, ↓get_bz d0, Int.toNat_natCast, wrap_i64', if_neg hb]
      rfl)
    (fun i hi hb => by
      unfold pfB
      simp (disch := (first | omega | (simp only [List.length_append, List.length_cons, List.length_nil, List.nil_append, List.length_take, List.length_drop]; omega))) only [↓bindO_some, ↓bindO_none, ↓joinO_inl, ↓joinO_inr, ↓joinO_none, ↓outO_some, ↓outO_none, ↓cond_true, ↓cond_false, ↓cond_and, ↓cond_or, ↓cond_not, ↓cond_ite, ↓if_pos, ↓if_neg, ↓if_true, ↓if_false, List.take_length, Nat.le_refl, Bool.not_true, Bool.not_false, ↓get_bz d0, Int.toNat_natCast, wrap_i64', if_pos hb])
    (by unfold pfB; simp (disch := (first | omega | (simp only [List.length_append, List.length_cons, List.length_nil, List.nil_append, List.length_take, List.length_drop]; omega))) only [↓bindO_some, ↓bindO_none, ↓joinO_inl, ↓joinO_inr, ↓joinO_none, ↓outO_some, ↓outO_none, ↓cond_true, ↓cond_false, ↓cond_and, ↓cond_or, ↓cond_not, ↓cond_ite, ↓if_pos, ↓if_neg, ↓if_true, ↓if_false, List.take_length, Nat.le_refl, Bool.not_true, Bool.not_false])
theorem rf_j (l : List Br) (hl : l.length ≤ 1000) : loopO (rfB l) (0 : Int) = some (if fdx Wa l < 0 then .inl () else .inr (fdx Wa l)) :=
  loopO_find (body := rfB l) Wa l (fun v => v)
    (fun i hi hb => by
      unfold rfB
      simp (disch := (first | omega | (simp only [List.length_append, List.length_cons, List.length_nil, List.nil_append, List.length_take, List.length_drop]; omega))) only [↓bindO_some, ↓bindO_none, ↓joinO_inl, ↓joinO_inr, ↓joinO_none, ↓outO_some, ↓outO_none, ↓cond_true, ↓cond_false, ↓cond_and, ↓cond_or, ↓cond_not, ↓cond_ite, ↓if_pos, ↓if_neg, ↓if_true, ↓if_false, List.take_length, Nat.le_refl, Bool.not_true, Bool.not_false, ↓get_bz d0, Int.toNat_natCast, wrap_i64', if_neg hb]
      rfl)
    (fun i hi hb => by
      unfold rfB
      simp (disch := (first | omega | (simp only [List.length_append, List.length_cons, List.length_nil, List.nil_append, List.length_take, List.length_drop]; omega))) only [↓bindO_some, ↓bindO_none, ↓joinO_inl, ↓joinO_inr, ↓joinO_none, ↓outO_some, ↓outO_none, ↓cond_true, ↓cond_false, ↓cond_and, ↓cond_or, ↓cond_not, ↓cond_ite, ↓if_pos, ↓if_neg, ↓if_true, ↓if_false, List.take_length, Nat.le_refl, Bool.not_true, Bool.not_false, ↓get_bz d0, Int.toNat_natCast, wrap_i64', if_pos hb])
    (by unfold rfB; simp (disch := (first | omega | (simp only [List.length_append, List.length_cons, List.length_nil, List.nil_append, List.length_take, List.length_drop]; omega))) only [↓bindO_some, ↓bindO_none, ↓joinO_inl, ↓joinO_inr, ↓joinO_none, ↓outO_some, ↓outO_none, ↓cond_true, ↓cond_false, ↓cond_and, ↓cond_or, ↓cond_not, ↓cond_ite, ↓if_pos, ↓if_neg, ↓if_true, ↓if_false, List.take_length, Nat.le_refl, Bool.not_true, Bool.not_false])
theorem fdx_m1 {p : Br → Prop} {l : List Br} (h : fdx p l < 0) : fdx p l = -1 := by
  have := fdx_neg.1 h
  unfold fdx
  rw [dif_neg this]
theorem first_j (l : List Br) (a2 : Int) (a3 a4 a5 : Bool) (hl : l.length ≤ 1000) : dialtoneref23_first (l, (a2, (a3, (a4, a5)))) = some (fdx Wa l) := by
  rw [first_eq, rf_j l hl]
  by_cases h : fdx Wa l < 0
  · rw [if_pos h, fdx_m1 h]; rfl
  · rw [if_neg h]; rfl
theorem any_j (l : List Br) (a2 : Int) (a3 a4 a5 : Bool) (hl : l.length ≤ 1000) : dialtoneref23_AnyOpen (l, (a2, (a3, (a4, a5)))) = some (decide (0 ≤ fdx Op l)) := by
  rcases anyOpen_j l a2 a3 a4 a5 hl with ⟨h, e⟩ | ⟨h, e⟩
  · rw [e, decide_eq_true]
    rcases Int.lt_or_le (fdx Op l) 0 with k | k
    · exact (fdx_neg.1 k h).elim
    · exact k
  · rw [e, decide_eq_false]
    have := fdx_neg.2 h
    omega
def BV (l : List Br) (a3 : Bool) : Int := if a3 = true then 487 else if HS l l.length ≠ [] then (ms (HS l l.length)).2 else if LS l l.length ≠ [] then (ms (LS l l.length)).2 else 480
theorem bestP_b {β : Type} (l : List Br) (a2 : Int) (a3 a4 a5 : Bool) (hl : l.length ≤ 1000) (f : Int → Option β) : bindO (fork_Best (l, (a2, (a3, (a4, a5))))) f = f (BV l a3) := by rw [be_j _ _ _ _ _ (by omega)]; rfl
theorem bestR_b {β : Type} (l : List Br) (a2 : Int) (a3 a4 a5 : Bool) (hl : l.length ≤ 1000) (f : Int → Option β) : bindO (dialtoneref23_Best (l, (a2, (a3, (a4, a5))))) f = f (BV l a3) := by rw [brf_j _ _ _ _ _ (by omega)]; rfl
noncomputable def GO (l : List Br) (a3 a4 a5 : Bool) : List Br × (Bool × List Ac) :=
 if a5 = true then (l, (a5, [])) else if 0 ≤ fdx Op l then (l, (a5, [])) else
 if a4 = true ∨ fdx Wa l < 0 then (l.map fsk, (true, [(6, (-1, BV (l.map fsk) a3))])) else
 (l.map (fsn (l.getD (fdx Wa l).toNat d0).2.1), (a5, ac (pSn (l.getD (fdx Wa l).toNat d0).2.1) 1 l l.length))
theorem map_take {f : Br → Br} (l : List Br) : List.take l.length (l.map f) = l.map f := by rw [← List.length_map (f := f), List.take_length]
theorem goOn_j (l : List Br) (a2 : Int) (a3 a4 a5 : Bool) (hl : l.length ≤ 1000) : dialtoneref23_goOn (l, (a2, (a3, (a4, a5)))) = some (((GO l a3 a4 a5).1, (a2, (a3, (a4, (GO l a3 a4 a5).2.1)))), (GO l a3 a4 a5).2.2) := by
  rw [goOn_eq, any_j l a2 a3 a4 a5 hl]
  unfold GO
  cases a5
  · by_cases h1 : 0 ≤ fdx Op l
    · rw [if_neg (by decide), if_pos h1, decide_eq_true h1]; rfl
    · rw [if_neg (by decide), if_neg h1, decide_eq_false h1]
      have hm : (l.map fsk).length ≤ 1000 := by simpa using hl
      simp (disch := (first | omega | (simp only [List.length_append, List.length_cons, List.length_nil, List.nil_append, List.length_take, List.length_drop]; omega))) only [↓bindO_some, ↓bindO_none, ↓joinO_inl, ↓joinO_inr, ↓joinO_none, ↓outO_some, ↓outO_none, ↓cond_true, ↓cond_false, ↓cond_and, ↓cond_or, ↓cond_not, ↓cond_ite, ↓if_pos, ↓if_neg, ↓if_true, ↓if_false, List.take_length, Nat.le_refl, Bool.not_true, Bool.not_false, if_pos, if_neg, first_j, skip_j, List.take_length]
      rw [bestR_b _ _ _ _ _ hm]
      cases a4
      · by_cases h2 : fdx Wa l < 0
        · simp only [↓bindO_some, ↓bindO_none, ↓joinO_inl, ↓joinO_inr, ↓joinO_none, ↓outO_some, ↓outO_none, ↓cond_true, ↓cond_false, ↓cond_and, ↓cond_or, ↓cond_not, ↓cond_ite, ↓if_pos, ↓if_neg, ↓if_true, ↓if_false, List.take_length, Nat.le_refl, Bool.not_true, Bool.not_false, h2, decide_true, or_true, if_true]
        · obtain ⟨i, e, hi, _⟩ := fdx_pos (p := Wa) (l := l) (by omega)
          have hr := rg_j (γ := (List Br × (Int × (Bool × (Bool × Bool)))) × List Ac) (l := l) (L := l) rfl hl (l.getD i d0)
          rw [e]
          simp (disch := (first | omega | (simp only [List.length_append, List.length_cons, List.length_nil, List.nil_append, List.length_take, List.length_drop]; omega))) only [↓bindO_some, ↓bindO_none, ↓joinO_inl, ↓joinO_inr, ↓joinO_none, ↓outO_some, ↓outO_none, ↓cond_true, ↓cond_false, ↓cond_and, ↓cond_or, ↓cond_not, ↓cond_ite, ↓if_pos, ↓if_neg, ↓if_true, ↓if_false, List.take_length, Nat.le_refl, Bool.not_true, Bool.not_false, if_pos, if_neg, ↓get_bz d0, Int.toNat_natCast, h2, hr, List.length_map, map_take, decide_true, Bool.and_self, Bool.false_eq_true, false_or]
      · simp only [↓bindO_some, ↓bindO_none, ↓joinO_inl, ↓joinO_inr, ↓joinO_none, ↓outO_some, ↓outO_none, ↓cond_true, ↓cond_false, ↓cond_and, ↓cond_or, ↓cond_not, ↓cond_ite, ↓if_pos, ↓if_neg, ↓if_true, ↓if_false, List.take_length, Nat.le_refl, Bool.not_true, Bool.not_false, true_or, if_true]
  · rw [if_pos rfl]; rfl
theorem goP_j {γ : Type} (l : List Br) (a2 : Int) (a3 a4 a5 : Bool) {A : List Ac} (hl : l.length ≤ 1000) (hA : A.length ≤ 1000) : goP (γ := γ) l a2 a3 a4 a5 A = some (.inl ((GO l a3 a4 a5).1, (a2, (a3, (a4, ((GO l a3 a4 a5).2.1, A ++ (GO l a3 a4 a5).2.2)))))) := by
  unfold goP
  rw [po_j l hl]
  have hx : (joinO (some (if fdx Op l < 0 then Sum.inl () else Sum.inr (Sum.inl (fdx Op l)))) fun _ => some (Sum.inl (-1 : Int)) : Option (Int ⊕ (Ps ⊕ γ))) = some (.inl (fdx Op l)) := by
    by_cases h : fdx Op l < 0
    · rw [if_pos h, fdx_m1 h]; rfl
    · rw [if_neg h]; rfl
  have hy : (joinO (loopO (pfB l) (0 : Int)) fun _ => some (Sum.inl (-1 : Int)) : Option (Int ⊕ (Ps ⊕ γ))) = some (.inl (fdx Wa l)) := by
    rw [pf_j l hl]
    by_cases h : fdx Wa l < 0
    · rw [if_pos h, fdx_m1 h]; rfl
    · rw [if_neg h]; rfl
  rw [hx]
  clear hx
  have hm : (l.map fsk).length ≤ 1000 := by simpa using hl
  unfold GO
  cases a5
  · by_cases h1 : 0 ≤ fdx Op l
    · rw [if_neg (by decide), if_pos h1]
      simp (disch := (first | omega | (simp only [List.length_append, List.length_cons, List.length_nil, List.nil_append, List.length_take, List.length_drop]; omega))) only [↓bindO_some, ↓bindO_none, ↓joinO_inl, ↓joinO_inr, ↓joinO_none, ↓outO_some, ↓outO_none, ↓cond_true, ↓cond_false, ↓cond_and, ↓cond_or, ↓cond_not, ↓cond_ite, ↓if_pos, ↓if_neg, ↓if_true, ↓if_false, List.take_length, Nat.le_refl, Bool.not_true, Bool.not_false, if_pos, if_neg, List.take_length, decide_true, Bool.and_self, List.append_nil]
    · rw [if_neg (by decide), if_neg h1]
      simp (disch := (first | omega | (simp only [List.length_append, List.length_cons, List.length_nil, List.nil_append, List.length_take, List.length_drop]; omega))) only [↓bindO_some, ↓bindO_none, ↓joinO_inl, ↓joinO_inr, ↓joinO_none, ↓outO_some, ↓outO_none, ↓cond_true, ↓cond_false, ↓cond_and, ↓cond_or, ↓cond_not, ↓cond_ite, ↓if_pos, ↓if_neg, ↓if_true, ↓if_false, List.take_length, Nat.le_refl, Bool.not_true, Bool.not_false, if_pos, if_neg, List.take_length, decide_true, Bool.and_self, List.append_nil, hy]
      cases a4
      · by_cases h2 : fdx Wa l < 0
        · have h3 : (A.length + 1) * 24 ≤ 140737488355328 := by omega
          simp (disch := (first | omega | (simp only [List.length_append, List.length_cons, List.length_nil, List.nil_append, List.length_take, List.length_drop]; omega))) only [↓bindO_some, ↓bindO_none, ↓joinO_inl, ↓joinO_inr, ↓joinO_none, ↓outO_some, ↓outO_none, ↓cond_true, ↓cond_false, ↓cond_and, ↓cond_or, ↓cond_not, ↓cond_ite, ↓if_pos, ↓if_neg, ↓if_true, ↓if_false, List.take_length, Nat.le_refl, Bool.not_true, Bool.not_false, if_pos, if_neg, sk_j, List.length_map, map_take, bestP_b _ _ _ _ _ hm, List.take_length, decide_true, Bool.and_self, h2, or_true, if_true]
        · obtain ⟨i, e, hi, _⟩ := fdx_pos (p := Wa) (l := l) (by omega)
          rw [e]
          have h3 : ¬ ((i : Int) < 0) := by omega
          simp (disch := (first | omega | (simp only [List.length_append, List.length_cons, List.length_nil, List.nil_append, List.length_take, List.length_drop]; omega))) only [↓bindO_some, ↓bindO_none, ↓joinO_inl, ↓joinO_inr, ↓joinO_none, ↓outO_some, ↓outO_none, ↓cond_true, ↓cond_false, ↓cond_and, ↓cond_or, ↓cond_not, ↓cond_ite, ↓if_pos, ↓if_neg, ↓if_true, ↓if_false, List.take_length, Nat.le_refl, Bool.not_true, Bool.not_false, if_pos, if_neg, ↓get_bz d0, Int.toNat_natCast, h2, pg_j (γ := γ) (L := l) rfl hl a2 a3 false false hA, List.length_map, map_take, List.take_length, decide_true, Bool.and_self, Bool.false_eq_true, false_or, h3]
      · have h3 : (A.length + 1) * 24 ≤ 140737488355328 := by omega
        simp (disch := (first | omega | (simp only [List.length_append, List.length_cons, List.length_nil, List.nil_append, List.length_take, List.length_drop]; omega))) only [↓bindO_some, ↓bindO_none, ↓joinO_inl, ↓joinO_inr, ↓joinO_none, ↓outO_some, ↓outO_none, ↓cond_true, ↓cond_false, ↓cond_and, ↓cond_or, ↓cond_not, ↓cond_ite, ↓if_pos, ↓if_neg, ↓if_true, ↓if_false, List.take_length, Nat.le_refl, Bool.not_true, Bool.not_false, if_pos, if_neg, sk_j, List.length_map, map_take, bestP_b _ _ _ _ _ hm, List.take_length, decide_true, Bool.and_self, true_or, if_true]
  · rw [if_pos rfl]
    simp (disch := (first | omega | (simp only [List.length_append, List.length_cons, List.length_nil, List.nil_append, List.length_take, List.length_drop]; omega))) only [↓bindO_some, ↓bindO_none, ↓joinO_inl, ↓joinO_inr, ↓joinO_none, ↓outO_some, ↓outO_none, ↓cond_true, ↓cond_false, ↓cond_and, ↓cond_or, ↓cond_not, ↓cond_ite, ↓if_pos, ↓if_neg, ↓if_true, ↓if_false, List.take_length, Nat.le_refl, Bool.not_true, Bool.not_false, if_pos, if_neg, List.take_length, decide_true, Bool.and_self, List.append_nil]
end Go.Proofs.Ytheicchelhjcjaa
