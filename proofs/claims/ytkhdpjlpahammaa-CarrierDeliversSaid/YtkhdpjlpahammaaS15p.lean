import Derived.Test.YtkhdpjlpahammaaS14p
set_option linter.unusedVariables false
set_option linter.unusedSimpArgs false
set_option maxRecDepth 100000
set_option maxHeartbeats 2000000
namespace Go.Proofs.Ytkhdpjlpahammaa
open Go.RowKit
section
variable {own : List FtT} {steps : List Int}
theorem tim_get {k i : Nat} (h : i < k) : (timS steps k).getD i 0 = tmS steps (i + 1) := by
  unfold timS
  rw [List.getD_eq_getElem?_getD, List.getElem?_map, List.getElem?_range h]
  rfl
theorem cdW_round (ho : OkF own) (hs : OkS steps) {k : Nat} (hk : k ≤ steps.length) (h60 : k ≤ 60) {D : List DgT} (lD : D.length ≤ 1000) {i : Nat} (hi : i < k) (hD : ∀ p ∈ pcAt own steps i, dgP p ∈ D) :
    cdW own steps (timS steps k) D ((i : Int), (((allP own steps i).length : Nat) : Int)) = some (.inl (((i + 1 : Nat) : Int), (((allP own steps (i + 1)).length : Nat) : Int))) := by
  have lT := tim_len steps k
  obtain ⟨x, hx, hxb⟩ := get_at 0 (show i < steps.length by omega)
  obtain ⟨y, hy, hyb⟩ := get_at 0 (show i < (timS steps k).length by omega)
  rw [tim_get hi] at hy
  have t1 := tm_b hs (i + 1)
  rw [hy] at t1
  have hf1 := fa_b ho (i : Int)
  have hal := all_len own steps i
  have hn : ((i : Int) + 1) = ((i + 1 : Nat) : Int) := rfl
  have hA : (allP own steps (i + 1)).length = (allP own steps i).length + (pcAt own steps i).length := by
    show (allP own steps i ++ pcAt own steps i).length = _
    rw [List.length_append]
  rw [hA]
  obtain ⟨m, hm⟩ : ∃ m, (allP own steps i).length = m := ⟨_, rfl⟩
  rw [hm] at hal ⊢
  have hw1 : IntKind.wrap .i64 ((i : Int) + 1) = ((i + 1 : Nat) : Int) := wrap_i64' (by omega)
  have hw2 : IntKind.wrap .i64 ((m : Int) + 1) = ((m + 1 : Nat) : Int) := wrap_i64' (by omega)
  have hw3 : IntKind.wrap .i64 (((m + 1 : Nat) : Int) + 1) = ((m + 2 : Nat) : Int) := wrap_i64' (by omega)
  have q0 : dgP (mkP own steps i false) = ((i : Int), ([97], ([98], (y + (fateAt own (i : Int)).2.1, [IntKind.wrap .u8 (i : Int), x])))) := by rw [← hy, ← hx]; rfl
  have q1 : dgP (mkP own steps i true) = ((i : Int), ([97], ([98], (y + (fateAt own (i : Int)).2.2.2, [IntKind.wrap .u8 (i : Int), x])))) := by rw [← hy, ← hx]; rfl
  have hg : ∀ (hi : (i : Int) < (own.length : Int)) {β : Type} (g : FtT → Option β), bindO own[Int.toNat (i : Int)]? g = g (fateAt own (i : Int)) := fun h β g => get_bz zF g ⟨by omega, h⟩
  rw [pc_eq] at hD ⊢
  obtain ⟨f, hf⟩ : ∃ f, fateAt own (i : Int) = f := ⟨_, rfl⟩
  have hz : ¬ (i : Int) < (own.length : Int) → f = zF := fun h => by
    rw [← hf]; unfold fateAt
    rw [List.getD_eq_getElem?_getD, List.getElem?_eq_none (by omega)]; rfl
  rw [hf] at hf1 q0 q1 hg hD ⊢
  have hv1 : IntKind.wrap .i64 (y + f.2.1) = y + f.2.1 := wrap_i64' (by omega)
  have hv2 : IntKind.wrap .i64 (y + f.2.2.2) = y + f.2.2.2 := wrap_i64' (by omega)
  unfold cdW
  simp only [lT]
  rw [decide_eq_true (show (i : Int) < (k : Int) by omega), cond_true]
  refine joinO_eq (a := (f.1, (f.2.1, (f.2.2.1, f.2.2.2)))) ?_ ?_
  · by_cases h : (i : Int) < (own.length : Int)
    · have hg := @hg h
      simp (disch := (first | omega | (simp only [List.length_append, List.length_cons, List.length_nil, List.nil_append, List.length_take, List.length_drop]; omega))) only [↓bindO_some, ↓bindO_none, ↓joinO_inl, ↓joinO_inr, ↓joinO_none, ↓outO_some, ↓outO_none, ↓cond_true, ↓cond_false, ↓cond_and, ↓cond_or, ↓cond_not, ↓cond_ite, ↓if_pos, ↓if_neg, ↓if_true, ↓if_false, List.take_length, Nat.le_refl, Bool.not_true, Bool.not_false, if_pos, ↓hg]
    · rw [hz h]
      simp (disch := (first | omega | (simp only [List.length_append, List.length_cons, List.length_nil, List.nil_append, List.length_take, List.length_drop]; omega))) only [↓bindO_some, ↓bindO_none, ↓joinO_inl, ↓joinO_inr, ↓joinO_none, ↓outO_some, ↓outO_none, ↓cond_true, ↓cond_false, ↓cond_and, ↓cond_or, ↓cond_not, ↓cond_ite, ↓if_pos, ↓if_neg, ↓if_true, ↓if_false, List.take_length, Nat.le_refl, Bool.not_true, Bool.not_false, if_pos, if_neg]
  cases k1 : f.1 with
  | true =>
    simp (disch := (first | omega | (simp only [List.length_append, List.length_cons, List.length_nil, List.nil_append, List.length_take, List.length_drop]; omega))) only [↓bindO_some, ↓bindO_none, ↓joinO_inl, ↓joinO_inr, ↓joinO_none, ↓outO_some, ↓outO_none, ↓cond_true, ↓cond_false, ↓cond_and, ↓cond_or, ↓cond_not, ↓cond_ite, ↓if_pos, ↓if_neg, ↓if_true, ↓if_false, List.take_length, Nat.le_refl, Bool.not_true, Bool.not_false, if_pos, hw1, List.length_nil, Nat.add_zero]
  | false =>
    rw [k1] at hD
    simp only [Bool.false_eq_true, if_false] at hD ⊢
    have hh1 : dialtonelaw11_has (D, ((i : Int), (y + f.2.1, x))) = some true := has_j D (by omega) _ _ _ (by rw [← q0]; exact hD _ (List.mem_cons_self ..))
    cases k2 : f.2.2.1 with
    | true =>
      rw [k2] at hD
      have hh2 : dialtonelaw11_has (D, ((i : Int), (y + f.2.2.2, x))) = some true := has_j D (by omega) _ _ _ (by rw [← q1]; exact hD _ (List.mem_cons_of_mem _ (by rw [if_pos rfl]; exact List.mem_cons_self ..)))
      simp (disch := (first | omega | (simp only [List.length_append, List.length_cons, List.length_nil, List.nil_append, List.length_take, List.length_drop]; omega))) only [↓bindO_some, ↓bindO_none, ↓joinO_inl, ↓joinO_inr, ↓joinO_none, ↓outO_some, ↓outO_none, ↓cond_true, ↓cond_false, ↓cond_and, ↓cond_or, ↓cond_not, ↓cond_ite, ↓if_pos, ↓if_neg, ↓if_true, ↓if_false, List.take_length, Nat.le_refl, Bool.not_true, Bool.not_false, if_pos, if_neg, lT, ↓hxb, ↓hyb, hv1, hv2, hh1, hh2, hw1, hw2, hw3, List.length_cons, List.length_nil]
    | false =>
      simp (disch := (first | omega | (simp only [List.length_append, List.length_cons, List.length_nil, List.nil_append, List.length_take, List.length_drop]; omega))) only [↓bindO_some, ↓bindO_none, ↓joinO_inl, ↓joinO_inr, ↓joinO_none, ↓outO_some, ↓outO_none, ↓cond_true, ↓cond_false, ↓cond_and, ↓cond_or, ↓cond_not, ↓cond_ite, ↓if_pos, ↓if_neg, ↓if_true, ↓if_false, List.take_length, Nat.le_refl, Bool.not_true, Bool.not_false, if_pos, if_neg, lT, ↓hxb, ↓hyb, hv1, hv2, hh1, hw1, hw2, hw3, List.length_cons, List.length_nil, Bool.false_eq_true, if_false]
theorem cdW_j (ho : OkF own) (hs : OkS steps) {k : Nat} (hk : k ≤ steps.length) (h60 : k ≤ 60) {D : List DgT} (lD : D.length ≤ 1000) (hD : ∀ p ∈ allP own steps k, dgP p ∈ D) :
    loopO (cdW own steps (timS steps k) D) ((0 : Int), (0 : Int)) = some (.inl (((allP own steps k).length : Nat) : Int)) := by
  refine loopO_from (fun i => ((i : Int), (((allP own steps i).length : Nat) : Int))) k rfl (fun i hi => cdW_round ho hs hk h60 lD hi fun p hp => hD p (all_in hi hp)) ?_
  have lT := tim_len steps k
  unfold cdW
  simp (disch := (first | omega | (simp only [List.length_append, List.length_cons, List.length_nil, List.nil_append, List.length_take, List.length_drop]; omega))) only [↓bindO_some, ↓bindO_none, ↓joinO_inl, ↓joinO_inr, ↓joinO_none, ↓outO_some, ↓outO_none, ↓cond_true, ↓cond_false, ↓cond_and, ↓cond_or, ↓cond_not, ↓cond_ite, ↓if_pos, ↓if_neg, ↓if_true, ↓if_false, List.take_length, Nat.le_refl, Bool.not_true, Bool.not_false, if_neg, lT]
theorem cdO_j (L : List PcT) (hl : L.length ≤ 1000) (sL : L.Pairwise fun p q => ¬ plt q p) : loopO (cdO (L.map dgP)) (0 : Int) = some (.inl ()) := by
  have lL : (L.map dgP).length = L.length := List.length_map ..
  refine loopO_from (fun i => ((i : Int))) L.length rfl (fun i hi => ?_) ?_
  · have hw1 : IntKind.wrap .i64 ((i : Int) + 1) = ((i + 1 : Nat) : Int) := wrap_i64' (by omega)
    cases i with
    | zero =>
      unfold cdO
      simp (disch := (first | omega | (simp only [List.length_append, List.length_cons, List.length_nil, List.nil_append, List.length_take, List.length_drop]; omega))) only [↓bindO_some, ↓bindO_none, ↓joinO_inl, ↓joinO_inr, ↓joinO_none, ↓outO_some, ↓outO_none, ↓cond_true, ↓cond_false, ↓cond_and, ↓cond_or, ↓cond_not, ↓cond_ite, ↓if_pos, ↓if_neg, ↓if_true, ↓if_false, List.take_length, Nat.le_refl, Bool.not_true, Bool.not_false, if_pos, if_neg, lL, hw1]
    | succ j =>
      obtain ⟨x, hx, hxb⟩ := get_at (dgP dP) (show j + 1 < (L.map dgP).length by omega)
      obtain ⟨y, hy, hyb⟩ := get_at (dgP dP) (show j < (L.map dgP).length by omega)
      have hw2 : IntKind.wrap .i64 (((j + 1 : Nat) : Int) - 1) = (j : Int) := by rw [wrap_i64' (by omega)]; omega
      have hp := List.pairwise_iff_getElem.1 sL j (j + 1) (by omega) hi (by omega)
      have ex : x = dgP L[j + 1] := by rw [← hx, getD_get _ (show j + 1 < (L.map dgP).length by omega), List.getElem_map]
      have ey : y = dgP L[j] := by rw [← hy, getD_get _ (show j < (L.map dgP).length by omega), List.getElem_map]
      have p1 : ¬ x.2.2.2.1 < y.2.2.2.1 := fun h => hp (.inl (by rw [ex, ey] at h; exact h))
      have p2 : x.2.2.2.1 = y.2.2.2.1 → ¬ x.1 < y.1 := fun h k => hp (.inr ⟨by rw [ex, ey] at h; exact h, .inl (by rw [ex, ey] at k; exact k)⟩)
      clear ex ey
      unfold cdO
      by_cases e : x.2.2.2.1 = y.2.2.2.1
      · have p3 := p2 e
        simp (disch := (first | omega | (simp only [List.length_append, List.length_cons, List.length_nil, List.nil_append, List.length_take, List.length_drop]; omega))) only [↓bindO_some, ↓bindO_none, ↓joinO_inl, ↓joinO_inr, ↓joinO_none, ↓outO_some, ↓outO_none, ↓cond_true, ↓cond_false, ↓cond_and, ↓cond_or, ↓cond_not, ↓cond_ite, ↓if_pos, ↓if_neg, ↓if_true, ↓if_false, List.take_length, Nat.le_refl, Bool.not_true, Bool.not_false, if_pos, if_neg, lL, hw1, hw2, ↓hxb, ↓hyb, p1, e, p3, Int.lt_irrefl]
      · simp (disch := (first | omega | (simp only [List.length_append, List.length_cons, List.length_nil, List.nil_append, List.length_take, List.length_drop]; omega))) only [↓bindO_some, ↓bindO_none, ↓joinO_inl, ↓joinO_inr, ↓joinO_none, ↓outO_some, ↓outO_none, ↓cond_true, ↓cond_false, ↓cond_and, ↓cond_or, ↓cond_not, ↓cond_ite, ↓if_pos, ↓if_neg, ↓if_true, ↓if_false, List.take_length, Nat.le_refl, Bool.not_true, Bool.not_false, if_pos, if_neg, lL, hw1, hw2, ↓hxb, ↓hyb, p1, e]
  · unfold cdO
    simp (disch := (first | omega | (simp only [List.length_append, List.length_cons, List.length_nil, List.nil_append, List.length_take, List.length_drop]; omega))) only [↓bindO_some, ↓bindO_none, ↓joinO_inl, ↓joinO_inr, ↓joinO_none, ↓outO_some, ↓outO_none, ↓cond_true, ↓cond_false, ↓cond_and, ↓cond_or, ↓cond_not, ↓cond_ite, ↓if_pos, ↓if_neg, ↓if_true, ↓if_false, List.take_length, Nat.le_refl, Bool.not_true, Bool.not_false, if_neg, lL]
end
theorem cd_main (a : List FtT × List Int) (h : WfIs [(.tmp 0 false [(.dat (.list (.pair .bool (.pair (.int .i64) (.pair .bool (.int .i64))))))]), (.tmp 1 false [(.dat (.list (.int .u8)))])] a) : dialtonelaw11_CarrierDelivers a = some true := by
  obtain ⟨fs, steps⟩ := a
  have hb : Bytes steps := wfBytes h.2.1.1
  have hs : OkS steps := fun x hx => by have := hb x hx; omega
  obtain ⟨own, hfit, lown, ho⟩ := fit_j fs
  obtain ⟨k, hk⟩ : ∃ k, k = min steps.length 60 := ⟨_, rfl⟩
  obtain ⟨O, R, hc, hM⟩ := cdM_j ho hs hk
  have hcl : cloneG own = some own := by unfold cloneG; rw [decide_eq_true (by omega)]; rfl
  have hlen := hc.pm.length_eq
  rw [List.length_append] at hlen
  have hal := all_len own steps k
  have hlo := lostN_b own k
  have tb := tm_b hs k
  have hap : ∀ p ∈ allP own steps k, OkP p ∧ atP p ≤ tmS steps k + 1000 := fun p hp => by
    obtain ⟨i, b, hi, rfl⟩ := all_mem hp
    have h1 := (at_b (steps := steps) ho i b).2
    have h2 := tm_le hs (show i + 1 ≤ k by omega)
    exact ⟨ok_mk ho hs (by omega) b, by omega⟩
  have hR : ∀ p ∈ R, OkP p ∧ atP p ≤ tmS steps k + 1000 := fun p hp => hap p (hc.pm.mem_iff.1 (List.mem_append_right _ hp))
  have all1 : ∀ (l : List PcT), (∀ p ∈ l, OkP p ∧ atP p ≤ tmS steps k + 1000) → l.filter (fun p => decide (atP p ≤ tmS steps k + 1000)) = l := fun l hl => List.filter_eq_self.2 fun p hp => decide_eq_true (hl p hp).2
  have all0 : ∀ (l : List PcT), (∀ p ∈ l, OkP p ∧ atP p ≤ tmS steps k + 1000) → l.filter (fun p => !decide (atP p ≤ tmS steps k + 1000)) = [] := fun l hl => by
    rw [List.filter_eq_nil_iff]
    intro p hp
    simp [(hl p hp).2]
  obtain ⟨L1, a1, a2, a3⟩ := receive_j own R (k : Int) (lostN own k) (tmS steps k) (tmS steps k + 1000) (by omega) (by omega) (by omega) (fun p hp => (hR p hp).1)
  obtain ⟨L2, b1, b2, b3⟩ := receive_j own (allP own steps k) (k : Int) (lostN own k) (tmS steps k) (tmS steps k + 1000) (by omega) (by omega) (by omega) (fun p hp => (hap p hp).1)
  rw [all1 R hR] at a1
  rw [all1 _ hap] at b1
  rw [all0 R hR] at a3
  rw [all0 _ hap] at b3
  have e : O ++ L1 = L2 := srt_eq (n := k) ((a1.append_left O).trans hc.pm) b1 (hc.so_app (.inl rfl) ho hs (fun q hq => List.mem_append_left _ (a1.mem_iff.1 hq)) a2) b2
  have lL : L2.length ≤ 120 := by rw [b1.length_eq]; omega
  have em : O.map dgP ++ L1.map dgP = L2.map dgP := by rw [← List.map_append, e]
  have hW := cdW_j ho hs (show k ≤ steps.length by omega) (by omega) (D := L2.map dgP) (by rw [List.length_map]; omega) (fun p hp => List.mem_map.2 ⟨p, b1.mem_iff.2 hp, rfl⟩)
  have hO := cdO_j L2 (by omega) b2
  have hA := alike_j (L2.map dgP) (by rw [List.length_map]; omega)
  rw [← b1.length_eq] at hW
  have l2 : (L2.map dgP).length = L2.length := List.length_map ..
  have hw : IntKind.wrap .i64 (tmS steps k + 1000) = tmS steps k + 1000 := wrap_i64' (by omega)
  have hwait : ∀ (fates : List FtT) (x y z : Int), carrier_Carrier_Waiting (true, (fates, ([], (x, (y, z))))) = some 0 := fun fates x y z => rfl
  have hd72 : (O.map dgP ++ L1.map dgP).length * 72 ≤ 140737488355328 := by rw [em, l2]; omega
  generalize L2.map dgP = D at *
  obtain ⟨W, hWe⟩ : ∃ W, O.map dgP = W := ⟨_, rfl⟩
  rw [hWe] at em hd72
  generalize L1.map dgP = V at *
  have hcd : ((D.length : Nat) : Int) = ((L2.length : Nat) : Int) := by rw [l2]
  rw [cd_eq, hfit, bindO_some, cdA_j own lown ho, joinO_inl, hcl, bindO_some, cdB_j own lown ho, joinO_inl, bindO_some]
  refine joinO_eq (a := stI own steps k O R) ?_ ?_
  · rw [← hM]
    simp (disch := (first | omega | (simp only [List.length_append, List.length_cons, List.length_nil, List.nil_append, List.length_take, List.length_drop]; omega))) only [↓bindO_some, ↓bindO_none, ↓joinO_inl, ↓joinO_inr, ↓joinO_none, ↓outO_some, ↓outO_none, ↓cond_true, ↓cond_false, ↓cond_and, ↓cond_or, ↓cond_not, ↓cond_ite, ↓if_pos, ↓if_neg, ↓if_true, ↓if_false, List.take_length, Nat.le_refl, Bool.not_true, Bool.not_false, if_pos]
    rfl
  unfold stI
  rw [hWe]
  simp (disch := (first | omega | (simp only [List.length_append, List.length_cons, List.length_nil, List.nil_append, List.length_take, List.length_drop]; omega))) only [↓bindO_some, ↓bindO_none, ↓joinO_inl, ↓joinO_inr, ↓joinO_none, ↓outO_some, ↓outO_none, ↓cond_true, ↓cond_false, ↓cond_and, ↓cond_or, ↓cond_not, ↓cond_ite, ↓if_pos, ↓if_neg, ↓if_true, ↓if_false, List.take_length, Nat.le_refl, Bool.not_true, Bool.not_false, if_pos, hw, a3, b3, em, hwait, hW, hO, hA, hcd, ne_eq, not_true_eq_false, decide_false, decide_true]
end Go.Proofs.Ytkhdpjlpahammaa
