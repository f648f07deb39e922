import Derived.Test.YtheicchelhjcjaaJ13p
set_option linter.unusedVariables false
set_option linter.unusedSimpArgs false
set_option maxRecDepth 100000
namespace Go.Proofs.Ytheicchelhjcjaa
open Go.RowKit
theorem fs_fac {l : List Br} {i j : Nat} {c : Int} (h : j < l.length) : ((fs l i c).getD j d0).1 = (l.getD j d0).1 ∧ ((fs l i c).getD j d0).2.1 = (l.getD j d0).2.1 ∧ ((i = j ∧ ((fs l i c).getD j d0).2.2.1 = 5 ∧ ((fs l i c).getD j d0).2.2.2 = c) ∨ (i ≠ j ∧ ((fs l i c).getD j d0).2.2.1 = (l.getD j d0).2.2.1 ∧ ((fs l i c).getD j d0).2.2.2 = (l.getD j d0).2.2.2)) := by
  rw [getD_fs h]
  by_cases e : i = j
  · subst e; rw [if_pos rfl]; exact ⟨rfl, rfl, .inl ⟨rfl, rfl, rfl⟩⟩
  · rw [if_neg e]; exact ⟨rfl, rfl, .inr ⟨e, rfl, rfl⟩⟩
theorem vjA {l : List Br} {a2 : Int} {a3 a4 a5 : Bool} {i : Nat} {c : Int} (h : VP l a2 a3 a4 a5) (hi : i < l.length) (ho : Op (l.getD i d0)) (hc : 200 ≤ c ∧ c ≤ 699) (c1 : c < 300 → a5 = true ∨ a3 = true) (c2 : c ≥ 600 → a4 = true) : VJ (fs l i c) a2 a3 a4 a5 := by
  have hl := fs_len l i c
  have hdn : a5 = true → a2 < 0 → False := fun g g' => h.dn g g' ⟨i, hi, ho⟩
  refine ⟨by rw [hl]; exact h.len, h.w0, by rw [hl]; exact h.w1, fun j hj => ?_, fun g => ?_, h.can, fun g g' => (hdn g g').elim⟩
  · rw [hl] at hj
    have hb := h.br j hj
    refine brOk_of hb (fun k hk => ?_) ?_ (fun k hk e1 e2 => ?_) ?_
    · obtain ⟨f1, f2, f3⟩ := fs_fac (i := i) (c := c) (show k < l.length by omega)
      refine ⟨f1, f2, ?_⟩
      rcases f3 with ⟨e, f3, _⟩ | ⟨_, f3, _⟩
      · subst e; unfold Er Op at *; omega
      · unfold Er; rw [f3]
    · obtain ⟨f1, f2, f3⟩ := fs_fac (i := i) (c := c) hj
      have := hb.1.s; have := hb.1.c5; have := hb.1.c0
      omega
    · obtain ⟨f1, f2, f3⟩ := fs_fac (i := i) (c := c) hj
      obtain ⟨g1, g2, g3⟩ := fs_fac (i := i) (c := c) (show k < l.length by omega)
      have := (hb.2.1 k hk).e3 e1 e2
      have hik : i ≠ k := fun e => by subst e; unfold Er Op at *; omega
      have hij : i ≠ j := fun e => by subst e; unfold Er Op at *; omega
      omega
    · obtain ⟨f1, f2, f3⟩ := fs_fac (i := i) (c := c) hj
      have h3 := hb.2.2
      rcases f3 with ⟨e, f3, f4⟩ | ⟨_, f3, f4⟩
      · refine ⟨fun g => by omega, fun g => by omega, fun g1 g2 g3 => ?_, fun g => c2 (by omega), fun g g' => by omega, fun g g' => by omega⟩
        rcases c1 (by omega) with k | k
        · exact (hdn k (by omega)).elim
        · exact k
      · exact ⟨fun g => h3.k6 (by omega), fun g => h3.k0 (by omega), fun g1 g2 g3 => h3.w (by omega) (by omega) g3, fun g => h3.r (by omega), fun g g' => h3.li g (by omega), fun g g' => h3.st g (by omega)⟩
  · have hw := h.win g
    have hlt := h.w1
    have hj : a2.toNat < l.length := by omega
    obtain ⟨f1, f2, f3⟩ := fs_fac (i := i) (c := c) hj
    have hij : i ≠ a2.toNat := fun e => by rw [← e] at hw; unfold Op at ho; omega
    exact ⟨by omega, by omega, hw.2.2⟩
theorem vjB {l : List Br} {a2 : Int} {a3 a4 a5 : Bool} {i : Nat} {c : Int} (h : VP l a2 a3 a4 a5) (hi : i < l.length) (ho : Op (l.getD i d0)) (hc : 200 ≤ c ∧ c ≤ 699) (c1 : c ≥ 300) : VJ ((fs l i c).map fst1) a2 a3 true a5 := by
  have hl : ((fs l i c).map fst1).length = l.length := by rw [List.length_map, fs_len]
  have hdn : a5 = true → a2 < 0 → False := fun g g' => h.dn g g' ⟨i, hi, ho⟩
  refine ⟨by rw [hl]; exact h.len, h.w0, by rw [hl]; exact h.w1, fun j hj => ?_, fun g => ?_, fun _ => rfl, fun g g' => (hdn g g').elim⟩
  · rw [hl] at hj
    have hb := h.br j hj
    refine brOk_of hb (fun k hk => ?_) ?_ (fun k hk e1 e2 => ?_) ?_
    · rw [getD_map (by rw [fs_len]; omega)]
      obtain ⟨f1, f2, f3⟩ := fs_fac (i := i) (c := c) (show k < l.length by omega)
      obtain ⟨p1, p2, p3, p4⟩ := fst1_fac ((fs l i c).getD k d0)
      refine ⟨by rw [p1, f1], by rw [p2, f2], ?_⟩
      rcases f3 with ⟨e, f3, _⟩ | ⟨_, f3, _⟩
      · subst e; unfold Er Op at *; omega
      · unfold Er; omega
    · rw [getD_map (by rw [fs_len]; omega)]
      obtain ⟨f1, f2, f3⟩ := fs_fac (i := i) (c := c) hj
      obtain ⟨p1, p2, p3, p4⟩ := fst1_fac ((fs l i c).getD j d0)
      have := hb.1.s; have := hb.1.c5; have := hb.1.c0
      rw [p3]
      omega
    · rw [getD_map (by rw [fs_len]; omega), getD_map (by rw [fs_len]; omega)]
      obtain ⟨f1, f2, f3⟩ := fs_fac (i := i) (c := c) hj
      obtain ⟨g1, g2, g3⟩ := fs_fac (i := i) (c := c) (show k < l.length by omega)
      obtain ⟨p1, p2, p3, p4⟩ := fst1_fac ((fs l i c).getD j d0)
      obtain ⟨q1, q2, q3, q4⟩ := fst1_fac ((fs l i c).getD k d0)
      have := (hb.2.1 k hk).e3 e1 e2
      have hik : i ≠ k := fun e => by subst e; unfold Er Op at *; omega
      have hij : i ≠ j := fun e => by subst e; unfold Er Op at *; omega
      unfold Er at e1 e2
      omega
    · rw [getD_map (by rw [fs_len]; omega)]
      obtain ⟨f1, f2, f3⟩ := fs_fac (i := i) (c := c) hj
      obtain ⟨p1, p2, p3, p4⟩ := fst1_fac ((fs l i c).getD j d0)
      have h3 := hb.2.2
      rcases f3 with ⟨e, f3, f4⟩ | ⟨_, f3, f4⟩
      · exact ⟨fun g => by omega, fun g => by omega, fun g1 g2 g3 => by omega, fun g => rfl, fun g g' => by omega, (fun g => by cases g)⟩
      · exact ⟨fun g => h3.k6 (by omega), fun g => h3.k0 (by omega), fun g1 g2 g3 => h3.w (by omega) (by omega) g3, fun g => rfl, fun g g' => by omega, (fun g => by cases g)⟩
  · have hw := h.win g
    have hlt := h.w1
    have hj : a2.toNat < l.length := by omega
    rw [getD_map (by rw [fs_len]; omega)]
    obtain ⟨f1, f2, f3⟩ := fs_fac (i := i) (c := c) hj
    obtain ⟨p1, p2, p3, p4⟩ := fst1_fac ((fs l i c).getD a2.toNat d0)
    have hij : i ≠ a2.toNat := fun e => by rw [← e] at hw; unfold Op at ho; omega
    exact ⟨by omega, by omega, hw.2.2.1, rfl, hw.2.2.2.2⟩
end Go.Proofs.Ytheicchelhjcjaa
