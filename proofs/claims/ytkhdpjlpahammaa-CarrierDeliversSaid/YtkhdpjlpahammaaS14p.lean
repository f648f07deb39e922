import Derived.Test.YtkhdpjlpahammaaS13p
set_option linter.unusedVariables false
set_option linter.unusedSimpArgs false
set_option maxRecDepth 100000
set_option maxHeartbeats 2000000
namespace Go.Proofs.Ytkhdpjlpahammaa
open Go.RowKit
theorem sd_j {δ : Type} (i st : Int) (fates : List FtT) (ps : List PcT) (sent lost cnow now : Int) (h1 : cnow ≤ now) (h2 : now ≤ 1099511627776) (h3 : 0 ≤ sent) (h4 : sent < 10000) (hl : ps.length ≤ 1000000) (hlo : 0 ≤ lost ∧ lost ≤ 10000) :
    sdB (δ := δ) i st now true fates ps sent lost cnow =
      some (.inl (sent, (0, (true, (fates, (ps ++ newPc (fateAt fates sent) sent [97] [98] now [IntKind.wrap .u8 i, st], (sent + 1, (if (fateAt fates sent).1 = true then lost + 1 else lost, now)))))))) := by
  have e1 : IntKind.wrap .i64 (sent + 1) = sent + 1 := wrap_i64' (by omega)
  have e2 : IntKind.wrap .i64 (lost + 1) = lost + 1 := wrap_i64' (by omega)
  obtain ⟨f, hf⟩ : ∃ f, fateAt fates sent = f := ⟨_, rfl⟩
  obtain ⟨data, hdt⟩ : ∃ data, [IntKind.wrap .u8 i, st] = data := ⟨_, rfl⟩
  unfold sdB
  rw [hf, hdt]
  show (bif (!true) then _ else _) = _
  rw [show (!true) = false from rfl, cond_false, decide_eq_false (show ¬ now < cnow by omega), cond_false, decide_eq_false (show ¬ now > 1099511627776 by omega), cond_false, decide_eq_false (show ¬ sent ≥ 10000 by omega), cond_false]
  refine joinO_eq (a := data) ?_ ?_
  · simp (disch := (first | omega | (simp only [List.length_append, List.length_cons, List.length_nil, List.nil_append, List.length_take, List.length_drop]; omega))) only [↓bindO_some, ↓bindO_none, ↓joinO_inl, ↓joinO_inr, ↓joinO_none, ↓outO_some, ↓outO_none, ↓cond_true, ↓cond_false, ↓cond_and, ↓cond_or, ↓cond_not, ↓cond_ite, ↓if_pos, ↓if_neg, ↓if_true, ↓if_false, List.take_length, Nat.le_refl, Bool.not_true, Bool.not_false, if_pos]
  refine joinO_eq (a := (f.1, (f.2.1, (f.2.2.1, (f.2.2.2, (sent, ([97], ([98], (now, (false, data)))))))))) ?_ ?_
  · by_cases hs : sent < (fates.length : Int)
    · have hg : ∀ {β : Type} (g : FtT → Option β), bindO fates[Int.toNat sent]? g = g f := fun g => by rw [← hf]; exact get_bz zF g ⟨h3, hs⟩
      simp (disch := (first | omega | (simp only [List.length_append, List.length_cons, List.length_nil, List.nil_append, List.length_take, List.length_drop]; omega))) only [↓bindO_some, ↓bindO_none, ↓joinO_inl, ↓joinO_inr, ↓joinO_none, ↓outO_some, ↓outO_none, ↓cond_true, ↓cond_false, ↓cond_and, ↓cond_or, ↓cond_not, ↓cond_ite, ↓if_pos, ↓if_neg, ↓if_true, ↓if_false, List.take_length, Nat.le_refl, Bool.not_true, Bool.not_false, if_pos, ↓hg]
    · have hz : f = zF := by
        rw [← hf]; unfold fateAt
        rw [List.getD_eq_getElem?_getD, List.getElem?_eq_none (by omega)]; rfl
      rw [hz]
      simp (disch := (first | omega | (simp only [List.length_append, List.length_cons, List.length_nil, List.nil_append, List.length_take, List.length_drop]; omega))) only [↓bindO_some, ↓bindO_none, ↓joinO_inl, ↓joinO_inr, ↓joinO_none, ↓outO_some, ↓outO_none, ↓cond_true, ↓cond_false, ↓cond_and, ↓cond_or, ↓cond_not, ↓cond_ite, ↓if_pos, ↓if_neg, ↓if_true, ↓if_false, List.take_length, Nat.le_refl, Bool.not_true, Bool.not_false, if_pos, if_neg]
  simp only [bindO_some, e1, e2]
  have ef : (f.1, (f.2.1, (f.2.2.1, f.2.2.2))) = f := rfl
  unfold newPc
  cases k1 : f.1 with
  | true => simp (disch := (first | omega | (simp only [List.length_append, List.length_cons, List.length_nil, List.nil_append, List.length_take, List.length_drop]; omega))) only [↓bindO_some, ↓bindO_none, ↓joinO_inl, ↓joinO_inr, ↓joinO_none, ↓outO_some, ↓outO_none, ↓cond_true, ↓cond_false, ↓cond_and, ↓cond_or, ↓cond_not, ↓cond_ite, ↓if_pos, ↓if_neg, ↓if_true, ↓if_false, List.take_length, Nat.le_refl, Bool.not_true, Bool.not_false, if_pos, List.append_nil]
  | false =>
    have ef' : (false, (f.2.1, (f.2.2.1, f.2.2.2))) = f := by rw [← k1]
    cases k2 : f.2.2.1 with
    | true =>
      have ef2 : (false, (f.2.1, (true, f.2.2.2))) = f := by rw [← k1, ← k2]
      simp (disch := (first | omega | (simp only [List.length_append, List.length_cons, List.length_nil, List.nil_append, List.length_take, List.length_drop]; omega))) only [↓bindO_some, ↓bindO_none, ↓joinO_inl, ↓joinO_inr, ↓joinO_none, ↓outO_some, ↓outO_none, ↓cond_true, ↓cond_false, ↓cond_and, ↓cond_or, ↓cond_not, ↓cond_ite, ↓if_pos, ↓if_neg, ↓if_true, ↓if_false, List.take_length, Nat.le_refl, Bool.not_true, Bool.not_false, if_pos, if_neg, Bool.false_eq_true, ef2, List.append_assoc, List.cons_append, List.nil_append]
    | false =>
      have ef2 : (false, (f.2.1, (false, f.2.2.2))) = f := Prod.ext k1.symm (Prod.ext rfl (Prod.ext k2.symm rfl))
      simp (disch := (first | omega | (simp only [List.length_append, List.length_cons, List.length_nil, List.nil_append, List.length_take, List.length_drop]; omega))) only [↓bindO_some, ↓bindO_none, ↓joinO_inl, ↓joinO_inr, ↓joinO_none, ↓outO_some, ↓outO_none, ↓cond_true, ↓cond_false, ↓cond_and, ↓cond_or, ↓cond_not, ↓cond_ite, ↓if_pos, ↓if_neg, ↓if_true, ↓if_false, List.take_length, Nat.le_refl, Bool.not_true, Bool.not_false, if_pos, if_neg, Bool.false_eq_true, ef2]
def timS (steps : List Int) (i : Nat) : List Int := (List.range i).map fun j => tmS steps (j + 1)
theorem tim_len (steps : List Int) (i : Nat) : (timS steps i).length = i := by unfold timS; simp
theorem tim_succ (steps : List Int) (i : Nat) : timS steps (i + 1) = timS steps i ++ [tmS steps (i + 1)] := by unfold timS; rw [List.range_succ, List.map_append]; rfl
def stI (own : List FtT) (steps : List Int) (i : Nat) (O R : List PcT) : StT :=
  (O.map dgP, (timS steps i, (tmS steps i, ((true, (own, (R, ((i : Int), (lostN own i, tmS steps i))))), (true, (own, (allP own steps i, ((i : Int), (lostN own i, tmS steps i)))))))))
section
variable {own : List FtT} {steps : List Int} (ho : OkF own) (hs : OkS steps)
include ho hs
theorem cd_round {i : Nat} (hi : i < steps.length) (h60 : i < 60) {O R : List PcT} (h : CInv own steps i O R) :
    ∃ O' R', CInv own steps (i + 1) O' R' ∧ cdM steps ((i : Int), stI own steps i O R) = some (.inl (((i + 1 : Nat) : Int), stI own steps (i + 1) O' R')) := by
  have hlen := h.pm.length_eq
  rw [List.length_append] at hlen
  have hal := all_len own steps i
  have hpl := pc_len own steps i
  have hlo := lostN_b own i
  have t0 := tm_b hs i
  have t1 := tm_b hs (i + 1)
  have tm := tm_mono hs i
  have hpp : ∀ p ∈ R ++ pcAt own steps i, OkP p := fun p hp => by
    rcases List.mem_append.1 hp with g | g
    · obtain ⟨j, c, hj, rfl⟩ := all_mem (h.pm.mem_iff.1 (List.mem_append_right _ g))
      exact ok_mk ho hs (by omega) c
    · obtain ⟨b, rfl⟩ := pc_mem g
      exact ok_mk ho hs (by omega) b
  have hC := fun δ => sd_j (δ := δ) (i : Int) (steps.getD i 0) own R (i : Int) (lostN own i) (tmS steps i) (tmS steps (i + 1)) tm (by omega) (by omega) (by omega) (by omega) (by omega)
  have hD := fun δ => sd_j (δ := δ) (i : Int) (steps.getD i 0) own (allP own steps i) (i : Int) (lostN own i) (tmS steps i) (tmS steps (i + 1)) tm (by omega) (by omega) (by omega) (by omega) (by omega)
  have hN : newPc (fateAt own (i : Int)) (i : Int) [97] [98] (tmS steps (i + 1)) [IntKind.wrap .u8 (i : Int), steps.getD i 0] = pcAt own steps i := rfl
  have hA : allP own steps i ++ pcAt own steps i = allP own steps (i + 1) := rfl
  have hL : (if (fateAt own (i : Int)).1 = true then lostN own i + 1 else lostN own i) = lostN own (i + 1) := rfl
  have hn : ((i : Int) + 1) = ((i + 1 : Nat) : Int) := rfl
  simp only [hN, hL, hA, hn] at hC hD
  obtain ⟨L, l1, l2, l3⟩ := receive_j own (R ++ pcAt own steps i) ((i + 1 : Nat) : Int) (lostN own (i + 1)) (tmS steps (i + 1)) (tmS steps (i + 1)) (Int.le_refl _) (by omega) (by rw [List.length_append]; omega) hpp
  refine ⟨O ++ L, _, h.step ho hs l1 l2, ?_⟩
  have lL : (L.map dgP).length ≤ 200 := by
    rw [List.length_map, l1.length_eq]
    refine Nat.le_trans (List.length_filter_le _ _) ?_
    rw [List.length_append]; omega
  obtain ⟨V, hV⟩ : ∃ V, L.map dgP = V := ⟨_, rfl⟩
  rw [hV] at l3 lL
  have lO : (O.map dgP).length ≤ 200 := by rw [List.length_map]; omega
  have lT := tim_len steps i
  unfold stI
  rw [List.map_append, hV, tim_succ]
  obtain ⟨W, hW⟩ : ∃ W, O.map dgP = W := ⟨_, rfl⟩
  rw [hW] at lO ⊢
  obtain ⟨Z, hZ⟩ : ∃ Z, timS steps i = Z := ⟨_, rfl⟩
  rw [hZ] at lT ⊢
  obtain ⟨x, hx, hxb⟩ := get_at 0 hi
  have htm : tmS steps (i + 1) = tmS steps i + x := by rw [← hx]; rfl
  have hx0 : 0 ≤ x ∧ x < 256 := by rw [← hx]; exact st_b hs i
  rw [hx] at hC hD
  have hw1 : IntKind.wrap .i64 x = x := wrap_i64' (by omega)
  have hw2 : IntKind.wrap .i64 (tmS steps i + x) = tmS steps (i + 1) := by rw [htm]; exact wrap_i64' (by omega)
  have hw3 : IntKind.wrap .i64 ((i : Int) + 1) = ((i + 1 : Nat) : Int) := wrap_i64' (by omega)
  clear htm
  generalize hF : (R ++ pcAt own steps i).filter (fun p => !decide (atP p ≤ tmS steps (i + 1))) = R' at l3 ⊢
  unfold cdM
  simp (disch := (first | omega | (simp only [List.length_append, List.length_cons, List.length_nil, List.nil_append, List.length_take, List.length_drop]; omega))) only [↓bindO_some, ↓bindO_none, ↓joinO_inl, ↓joinO_inr, ↓joinO_none, ↓outO_some, ↓outO_none, ↓cond_true, ↓cond_false, ↓cond_and, ↓cond_or, ↓cond_not, ↓cond_ite, ↓if_pos, ↓if_neg, ↓if_true, ↓if_false, List.take_length, Nat.le_refl, Bool.not_true, Bool.not_false, if_pos, ↓hxb, hw1, hw2, hC, hD, l3, hw3, ne_eq, not_true_eq_false, decide_false, decide_true, List.getElem?_cons_zero]
theorem cdM_j {k : Nat} (hk : k = min steps.length 60) : ∃ O R, CInv own steps k O R ∧ loopO (cdM steps) ((0 : Int), stI own steps 0 [] []) = some (.inl (stI own steps k O R)) := by
  obtain ⟨r, h1, O, R, hc, rfl⟩ := loopO_post (body := cdM steps)
    (fun x => ∃ (i : Nat) (O R : List PcT), x = ((i : Int), stI own steps i O R) ∧ i ≤ k ∧ CInv own steps i O R)
    (fun r => ∃ O R, CInv own steps k O R ∧ r = .inl (stI own steps k O R))
    (fun x => (60 - x.1).toNat)
    (fun x hx => by
      obtain ⟨i, O, R, rfl, hi, hc⟩ := hx
      by_cases h : i < k
      · obtain ⟨O', R', c1, c2⟩ := cd_round ho hs (show i < steps.length by omega) (by omega) hc
        refine .inr ⟨_, c2, ⟨i + 1, O', R', rfl, by omega, c1⟩, ?_⟩
        show (60 - ((i + 1 : Nat) : Int)).toNat < (60 - (i : Int)).toNat
        omega
      · have hik : i = k := by omega
        subst hik
        refine .inl ⟨_, ?_, O, R, hc, rfl⟩
        unfold cdM stI
        by_cases h2 : i < steps.length
        · have h3 : ¬ (i : Int) < 60 := by omega
          simp (disch := (first | omega | (simp only [List.length_append, List.length_cons, List.length_nil, List.nil_append, List.length_take, List.length_drop]; omega))) only [↓bindO_some, ↓bindO_none, ↓joinO_inl, ↓joinO_inr, ↓joinO_none, ↓outO_some, ↓outO_none, ↓cond_true, ↓cond_false, ↓cond_and, ↓cond_or, ↓cond_not, ↓cond_ite, ↓if_pos, ↓if_neg, ↓if_true, ↓if_false, List.take_length, Nat.le_refl, Bool.not_true, Bool.not_false, if_pos, if_neg]
        · simp (disch := (first | omega | (simp only [List.length_append, List.length_cons, List.length_nil, List.nil_append, List.length_take, List.length_drop]; omega))) only [↓bindO_some, ↓bindO_none, ↓joinO_inl, ↓joinO_inr, ↓joinO_none, ↓outO_some, ↓outO_none, ↓cond_true, ↓cond_false, ↓cond_and, ↓cond_or, ↓cond_not, ↓cond_ite, ↓if_pos, ↓if_neg, ↓if_true, ↓if_false, List.take_length, Nat.le_refl, Bool.not_true, Bool.not_false, if_pos, if_neg])
    (x := ((0 : Int), stI own steps 0 [] [])) ⟨0, [], [], rfl, by omega, cinv0⟩
  exact ⟨O, R, hc, h1⟩
end
end Go.Proofs.Ytkhdpjlpahammaa
