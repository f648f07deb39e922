import Derived.Test.YtheicchelhjcjaaJ14p
set_option linter.unusedVariables false
set_option linter.unusedSimpArgs false
set_option maxRecDepth 100000
namespace Go.Proofs.Ytheicchelhjcjaa
open Go.RowKit
theorem vpC {l : List Br} {a2 : Int} {a4 a5 : Bool} {i : Nat} {c : Int} (h : VP l a2 false a4 a5) (hi : i < l.length) (ho : Op (l.getD i d0)) (hc : 200 ≤ c ∧ c ≤ 699) (c1 : c < 300) : VP (((fs l i c).map fst1).map fsk) (i : Int) false true true := by
  have hl : (((fs l i c).map fst1).map fsk).length = l.length := by rw [List.length_map, List.length_map, fs_len]
  have hget : ∀ j, j < l.length → (((fs l i c).map fst1).map fsk).getD j d0 = fsk (fst1 ((fs l i c).getD j d0)) := fun j hj => by
    rw [getD_map (by rw [List.length_map, fs_len]; exact hj), getD_map (by rw [fs_len]; exact hj)]
  refine ⟨by rw [hl]; exact h.len, by omega, by rw [hl]; omega, fun j hj => ?_, fun g => ?_, fun g => rfl, (fun g => by cases g), fun _ g => absurd g (by omega)⟩
  · rw [hl] at hj
    have hb := h.br j hj
    refine brOk_of hb (fun k hk => ?_) ?_ (fun k hk e1 e2 => ?_) ?_
    · rw [hget k (by omega)]
      obtain ⟨f1, f2, f3⟩ := fs_fac (i := i) (c := c) (show k < l.length by omega)
      obtain ⟨p1, p2, p3, p4⟩ := fst1_fac ((fs l i c).getD k d0)
      obtain ⟨q1, q2, q3, q4⟩ := fsk_fac (fst1 ((fs l i c).getD k d0))
      refine ⟨by rw [q1, p1, f1], by rw [q2, p2, f2], ?_⟩
      rcases f3 with ⟨e, f3, _⟩ | ⟨_, f3, _⟩
      · subst e; unfold Er Op at *; omega
      · unfold Er; omega
    · rw [hget j hj]
      obtain ⟨f1, f2, f3⟩ := fs_fac (i := i) (c := c) hj
      obtain ⟨p1, p2, p3, p4⟩ := fst1_fac ((fs l i c).getD j d0)
      obtain ⟨q1, q2, q3, q4⟩ := fsk_fac (fst1 ((fs l i c).getD j d0))
      have := hb.1.s; have := hb.1.c5; have := hb.1.c0
      rw [q3, p3]
      omega
    · rw [hget j hj, hget k (by omega)]
      obtain ⟨f1, f2, f3⟩ := fs_fac (i := i) (c := c) hj
      obtain ⟨g1, g2, g3⟩ := fs_fac (i := i) (c := c) (show k < l.length by omega)
      obtain ⟨p1, p2, p3, p4⟩ := fst1_fac ((fs l i c).getD j d0)
      obtain ⟨q1, q2, q3, q4⟩ := fsk_fac (fst1 ((fs l i c).getD j d0))
      obtain ⟨r1, r2, r3, r4⟩ := fst1_fac ((fs l i c).getD k d0)
      obtain ⟨t1, t2, t3, t4⟩ := fsk_fac (fst1 ((fs l i c).getD k d0))
      have hik : i ≠ k := fun e => by subst e; unfold Er Op at *; omega
      have hij : i ≠ j := fun e => by subst e; unfold Er Op at *; omega
      unfold Er at e1 e2
      omega
    · rw [hget j hj]
      obtain ⟨f1, f2, f3⟩ := fs_fac (i := i) (c := c) hj
      obtain ⟨p1, p2, p3, p4⟩ := fst1_fac ((fs l i c).getD j d0)
      obtain ⟨q1, q2, q3, q4⟩ := fsk_fac (fst1 ((fs l i c).getD j d0))
      exact ⟨fun g => rfl, fun g => by omega, fun g1 g2 g3 => by omega, fun g => rfl, fun g g' => by omega, (fun g => by cases g)⟩
  · rw [Int.toNat_natCast, hget i hi]
    obtain ⟨f1, f2, f3⟩ := fs_fac (i := i) (c := c) hi
    obtain ⟨p1, p2, p3, p4⟩ := fst1_fac ((fs l i c).getD i d0)
    obtain ⟨q1, q2, q3, q4⟩ := fsk_fac (fst1 ((fs l i c).getD i d0))
    exact ⟨by omega, by omega, rfl, rfl, rfl⟩
abbrev VF (F : Fk) : Prop := VP F.1 F.2.1 F.2.2.1 F.2.2.2.1 F.2.2.2.2
theorem fin_vp {l : List Br} {a2 : Int} {a3 a4 a5 : Bool} {i : Nat} {c : Int} (h : VP l a2 a3 a4 a5) (hi : i < l.length) (ho : Op (l.getD i d0)) (hc : 200 ≤ c ∧ c ≤ 699) : VF (FIN l a2 a3 a4 a5 i c).1 := by
  unfold FIN
  by_cases g1 : c < 300 ∧ a5 = false ∧ a3 = false
  · rw [if_pos g1]
    obtain ⟨g, rfl, rfl⟩ := g1
    exact vpC h hi ho hc g
  · rw [if_neg g1]
    by_cases g2 : c < 300
    · rw [if_pos g2]
      exact GO_vp (vjA h hi ho hc (fun _ => by cases a5 <;> cases a3 <;> simp_all) (fun g => by omega))
    · rw [if_neg g2]
      by_cases g3 : c ≥ 600
      · rw [if_pos g3]
        exact GO_vp (vjB h hi ho hc (by omega))
      · rw [if_neg g3]
        exact GO_vp (vjA h hi ho hc (fun g => by omega) (fun g => by omega))
theorem vpX {l : List Br} {a2 : Int} {a4 : Bool} (h : VP l a2 false a4 false) : VP (l.map fst1) a2 true true false := by
  have hl : (l.map fst1).length = l.length := by rw [List.length_map]
  have hw : a2 < 0 := by
    rcases Int.lt_or_le a2 0 with k | k
    · exact k
    · have := (h.win k).2.2.1; cases this
  refine ⟨by rw [hl]; exact h.len, h.w0, by rw [hl]; exact h.w1, fun j hj => ?_, fun g => absurd hw (by omega), fun g => rfl, fun _ => ?_, (fun g => by cases g)⟩
  · rw [hl] at hj
    have hb := h.br j hj
    refine brOk_of hb (fun k hk => ?_) ?_ (fun k hk e1 e2 => ?_) ?_
    · rw [getD_map (by omega)]
      obtain ⟨p1, p2, p3, p4⟩ := fst1_fac (l.getD k d0)
      exact ⟨p1, p2, by unfold Er; omega⟩
    · rw [getD_map hj]
      obtain ⟨p1, p2, p3, p4⟩ := fst1_fac (l.getD j d0)
      have := hb.1.s; have := hb.1.c5; have := hb.1.c0
      rw [p3]
      omega
    · rw [getD_map hj, getD_map (by omega)]
      obtain ⟨p1, p2, p3, p4⟩ := fst1_fac (l.getD j d0)
      obtain ⟨q1, q2, q3, q4⟩ := fst1_fac (l.getD k d0)
      have := (hb.2.1 k hk).e3 e1 e2
      unfold Er at e1 e2
      omega
    · rw [getD_map hj]
      obtain ⟨p1, p2, p3, p4⟩ := fst1_fac (l.getD j d0)
      have h3 := hb.2.2
      exact ⟨fun g => h3.k6 (by omega), fun g => rfl, fun g1 g2 g3 => rfl, fun g => rfl, fun g g' => by omega, (fun g => by cases g)⟩
  · obtain ⟨i, i1, i2⟩ := h.nd rfl
    refine ⟨i, by rw [hl]; exact i1, ?_⟩
    rw [getD_map i1]
    obtain ⟨p1, p2, p3, p4⟩ := fst1_fac (l.getD i d0)
    unfold Op at *
    omega
theorem vpS {l : List Br} {a2 : Int} {a3 a4 a5 : Bool} {i : Nat} {s' : Int} (h : VP l a2 a3 a4 a5) (hi : i < l.length) (hs : ((l.getD i d0).2.2.1 = 1 ∧ s' = 2) ∨ ((l.getD i d0).2.2.1 = 3 ∧ s' = 4)) : VP (List.set l i ((l.getD i d0).1, ((l.getD i d0).2.1, (s', (l.getD i d0).2.2.2)))) a2 a3 a4 a5 := by
  have hl : (List.set l i ((l.getD i d0).1, ((l.getD i d0).2.1, (s', (l.getD i d0).2.2.2)))).length = l.length := by simp
  have hfac : ∀ j, j < l.length → ((List.set l i ((l.getD i d0).1, ((l.getD i d0).2.1, (s', (l.getD i d0).2.2.2)))).getD j d0).1 = (l.getD j d0).1 ∧ ((List.set l i ((l.getD i d0).1, ((l.getD i d0).2.1, (s', (l.getD i d0).2.2.2)))).getD j d0).2.1 = (l.getD j d0).2.1 ∧ ((List.set l i ((l.getD i d0).1, ((l.getD i d0).2.1, (s', (l.getD i d0).2.2.2)))).getD j d0).2.2.2 = (l.getD j d0).2.2.2 ∧
      ((i = j ∧ ((List.set l i ((l.getD i d0).1, ((l.getD i d0).2.1, (s', (l.getD i d0).2.2.2)))).getD j d0).2.2.1 = s') ∨ (i ≠ j ∧ ((List.set l i ((l.getD i d0).1, ((l.getD i d0).2.1, (s', (l.getD i d0).2.2.2)))).getD j d0).2.2.1 = (l.getD j d0).2.2.1)) := fun j hj => by
    rw [List.getD_eq_getElem?_getD (l := List.set _ _ _), List.getElem?_set]
    by_cases e : i = j
    · subst e; rw [if_pos rfl, if_pos hj]; exact ⟨rfl, rfl, rfl, .inl ⟨rfl, rfl⟩⟩
    · rw [if_neg e, ← List.getD_eq_getElem?_getD]; exact ⟨rfl, rfl, rfl, .inr ⟨e, rfl⟩⟩
  generalize List.set l i ((l.getD i d0).1, ((l.getD i d0).2.1, (s', (l.getD i d0).2.2.2))) = l' at *
  refine ⟨by rw [hl]; exact h.len, h.w0, by rw [hl]; exact h.w1, fun j hj => ?_, fun g => ?_, h.can, fun g => ?_, fun g g' => ?_⟩
  · rw [hl] at hj
    have hb := h.br j hj
    refine brOk_of hb (fun k hk => ?_) ?_ (fun k hk e1 e2 => ?_) ?_
    · obtain ⟨p1, p2, p3, p4⟩ := hfac k (by omega)
      refine ⟨p1, p2, ?_⟩
      rcases p4 with ⟨e, p4⟩ | ⟨_, p4⟩
      · subst e; unfold Er; omega
      · unfold Er; rw [p4]
    · obtain ⟨p1, p2, p3, p4⟩ := hfac j hj
      have := hb.1.s; have := hb.1.c5; have := hb.1.c0
      rw [p3]
      rcases p4 with ⟨e, p4⟩ | ⟨_, p4⟩
      · subst e; omega
      · omega
    · obtain ⟨p1, p2, p3, p4⟩ := hfac j hj
      obtain ⟨q1, q2, q3, q4⟩ := hfac k (by omega)
      have := (hb.2.1 k hk).e3 e1 e2
      have hik : i ≠ k := fun e => by subst e; unfold Er at *; omega
      have hij : i ≠ j := fun e => by subst e; unfold Er at *; omega
      omega
    · obtain ⟨p1, p2, p3, p4⟩ := hfac j hj
      have h3 := hb.2.2
      rcases p4 with ⟨e, p4⟩ | ⟨_, p4⟩
      · subst e
        exact ⟨fun g => by omega, fun g => by omega, fun g1 g2 g3 => h3.w (by omega) (by omega) g3, fun g => h3.r (by omega), fun g g' => h3.li g (by omega), fun g g' => h3.st g (by omega)⟩
      · exact ⟨fun g => h3.k6 (by omega), fun g => h3.k0 (by omega), fun g1 g2 g3 => h3.w (by omega) (by omega) g3, fun g => h3.r (by omega), fun g g' => h3.li g (by omega), fun g g' => h3.st g (by omega)⟩
  · have hw := h.win g
    have hlt := h.w1
    have hj : a2.toNat < l.length := by omega
    obtain ⟨p1, p2, p3, p4⟩ := hfac _ hj
    have hij : i ≠ a2.toNat := fun e => by rw [← e] at hw; omega
    exact ⟨by omega, by omega, hw.2.2⟩
  · refine ⟨i, by rw [hl]; exact hi, ?_⟩
    obtain ⟨p1, p2, p3, p4⟩ := hfac i hi
    unfold Op; omega
  · exact (h.dn g g' ⟨i, hi, by unfold Op; omega⟩).elim
theorem stc_vp {l : List Br} {a2 : Int} {a3 a4 a5 : Bool} {k b c : Int} (h : CKO l a2 a3 a4 a5 k b c) : VF (STC l a2 a3 a4 a5 k b c).1 := by
  unfold STC
  have k1 := h.k1
  have k4 := h.k4
  by_cases e4 : k = 4
  · obtain ⟨rfl, rfl⟩ := h.c4 e4
    rw [if_neg (by omega), if_neg (by omega), if_neg (by omega)]
    exact vpX h.v
  obtain ⟨b0, b1, ho⟩ := h.b0 e4
  have hi : b.toNat < l.length := by omega
  by_cases e1 : k = 1
  · rw [if_pos e1]
    show VP (PV l b.toNat c).1 a2 a3 a4 a5
    unfold PV
    split
    · rename_i g; exact vpS h.v hi (.inl ⟨g, rfl⟩)
    split
    · rename_i g; exact vpS h.v hi (.inr ⟨g, rfl⟩)
    · exact h.v
  rw [if_neg e1]
  by_cases e2 : k = 2
  · rw [if_pos e2]; exact fin_vp h.v hi ho (h.c2 e2)
  · rw [if_neg e2, if_pos (by omega)]; exact fin_vp h.v hi ho (by omega)
end Go.Proofs.Ytheicchelhjcjaa
