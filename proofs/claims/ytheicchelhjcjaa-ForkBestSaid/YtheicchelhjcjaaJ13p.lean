import Derived.Test.YtheicchelhjcjaaJ12p
set_option linter.unusedVariables false
set_option linter.unusedSimpArgs false
set_option maxRecDepth 100000
namespace Go.Proofs.Ytheicchelhjcjaa
open Go.RowKit
structure VJ (l : List Br) (a2 : Int) (a3 a4 a5 : Bool) : Prop where
  len : l.length ≤ 16
  w0 : -1 ≤ a2
  w1 : a2 < (l.length : Int)
  br : ∀ i, i < l.length → BrOk l a2 a3 a4 a5 i
  win : 0 ≤ a2 → (l.getD a2.toNat d0).2.2.1 = 5 ∧ (l.getD a2.toNat d0).2.2.2 < 300 ∧ a5 = true ∧ a4 = true ∧ a3 = false
  can : a3 = true → a4 = true
  dn : a5 = true → a2 < 0 → ¬ ∃ i, i < l.length ∧ Op (l.getD i d0)
theorem VJ.vp {l : List Br} {a2 : Int} {a3 a4 a5 : Bool} (h : VJ l a2 a3 a4 a5) (nd : a5 = false → ∃ i, i < l.length ∧ Op (l.getD i d0)) : VP l a2 a3 a4 a5 := ⟨h.len, h.w0, h.w1, h.br, h.win, h.can, nd, h.dn⟩
theorem Pair.map {x y x' y' : Br} (h : Pair x y) (u : x'.1 = x.1) (u2 : y'.1 = y.1) (q : x'.2.1 = x.2.1) (q2 : y'.2.1 = y.2.1) (e : Er x' ↔ Er x) (e' : Er y' ↔ Er y) (e3 : Er x → Er y → x'.2.2.1 = y'.2.2.1) : Pair x' y' :=
  ⟨by rw [u, u2]; exact h.u, by rw [q, q2]; exact h.q, fun k => e'.2 (h.e1 (e.1 k)), fun k k' => by rw [q, q2]; exact h.e2 (fun g => k (e.2 g)) (e'.1 k'), fun k k' => e3 (e.1 k) (e'.1 k')⟩
theorem getD_map {f : Br → Br} {l : List Br} {i : Nat} (h : i < l.length) : (l.map f).getD i d0 = f (l.getD i d0) := by
  rw [List.getD_eq_getElem?_getD, List.getD_eq_getElem?_getD, List.getElem?_map, List.getElem?_eq_getElem h]; rfl
theorem getD_fs {l : List Br} {i j : Nat} {c : Int} (h : j < l.length) : (fs l i c).getD j d0 = if i = j then ((l.getD i d0).1, ((l.getD i d0).2.1, (5, c))) else l.getD j d0 := by
  unfold fs
  rw [List.getD_eq_getElem?_getD, List.getElem?_set]
  by_cases e : i = j
  · subst e; rw [if_pos rfl, if_pos rfl, if_pos h]; rfl
  · rw [if_neg e, if_neg e, List.getD_eq_getElem?_getD]
theorem fsk_fac (x : Br) : (fsk x).1 = x.1 ∧ (fsk x).2.1 = x.2.1 ∧ (fsk x).2.2.2 = x.2.2.2 ∧ ((x.2.2.1 = 0 ∧ (fsk x).2.2.1 = 6) ∨ (x.2.2.1 ≠ 0 ∧ (fsk x).2.2.1 = x.2.2.1)) := by
  unfold fsk
  by_cases h : x.2.2.1 = 0
  · rw [if_pos h]; exact ⟨rfl, rfl, rfl, .inl ⟨h, rfl⟩⟩
  · rw [if_neg h]; exact ⟨rfl, rfl, rfl, .inr ⟨h, rfl⟩⟩
theorem fst1_fac (x : Br) : (fst1 x).1 = x.1 ∧ (fst1 x).2.1 = x.2.1 ∧ (fst1 x).2.2.2 = x.2.2.2 ∧ ((x.2.2.1 = 2 ∧ (fst1 x).2.2.1 = 4) ∨ (x.2.2.1 = 1 ∧ (fst1 x).2.2.1 = 3) ∨ (x.2.2.1 ≠ 1 ∧ x.2.2.1 ≠ 2 ∧ (fst1 x).2.2.1 = x.2.2.1)) := by
  unfold fst1
  by_cases h : x.2.2.1 = 2
  · rw [if_pos h]; exact ⟨rfl, rfl, rfl, .inl ⟨h, rfl⟩⟩
  · by_cases h' : x.2.2.1 = 1
    · rw [if_neg h, if_pos h']; exact ⟨rfl, rfl, rfl, .inr (.inl ⟨h', rfl⟩)⟩
    · rw [if_neg h, if_neg h']; exact ⟨rfl, rfl, rfl, .inr (.inr ⟨h', h, rfl⟩)⟩
theorem fsn_fac (q : Int) (x : Br) : (fsn q x).1 = x.1 ∧ (fsn q x).2.1 = x.2.1 ∧ (fsn q x).2.2.2 = x.2.2.2 ∧ ((x.2.2.1 = 0 ∧ x.2.1 = q ∧ (fsn q x).2.2.1 = 1) ∨ (¬ (x.2.2.1 = 0 ∧ x.2.1 = q) ∧ (fsn q x).2.2.1 = x.2.2.1)) := by
  unfold fsn
  by_cases h : x.2.2.1 = 0 ∧ x.2.1 = q
  · rw [if_pos h]; exact ⟨rfl, rfl, rfl, .inl ⟨h.1, h.2, rfl⟩⟩
  · rw [if_neg h]; exact ⟨rfl, rfl, rfl, .inr ⟨h, rfl⟩⟩
theorem brOk_of {l l' : List Br} {a2 a2' : Int} {a3 a4 a5 a3' a4' a5' : Bool} {i : Nat} (h : BrOk l a2 a3 a4 a5 i) (hs : ∀ k, k ≤ i → (l'.getD k d0).1 = (l.getD k d0).1 ∧ (l'.getD k d0).2.1 = (l.getD k d0).2.1 ∧ (Er (l'.getD k d0) ↔ Er (l.getD k d0)))
    (h1 : (l'.getD i d0).2.2.1 ≤ 6 ∧ ((l'.getD i d0).2.2.1 = 5 → 200 ≤ (l'.getD i d0).2.2.2 ∧ (l'.getD i d0).2.2.2 ≤ 699) ∧ ((l'.getD i d0).2.2.1 ≠ 5 → (l'.getD i d0).2.2.2 = 0))
    (h2 : ∀ k, k < i → Er (l.getD k d0) → Er (l.getD i d0) → (l'.getD k d0).2.2.1 = (l'.getD i d0).2.2.1) (h3 : B3 a2' a3' a4' a5' (l'.getD i d0)) : BrOk l' a2' a3' a4' a5' i := by
  obtain ⟨b1, b2, _⟩ := h
  obtain ⟨u, q, e⟩ := hs i (Nat.le_refl _)
  refine ⟨⟨by rw [u]; exact b1.u, by rw [q]; exact b1.q0, by rw [q]; exact b1.q1, h1.1, h1.2.1, h1.2.2⟩, fun k hk => ?_, h3⟩
  obtain ⟨u', q', e'⟩ := hs k (Nat.le_of_lt hk)
  exact (b2 k hk).map u' u q' q e' e (h2 k hk)
theorem fdx_min {p : Br → Prop} {l : List Br} {i : Nat} (h : fdx p l = (i : Int)) : ∀ j, j < i → ¬ p (l.getD j d0) := by
  intro j hj hp
  unfold fdx at h
  split at h
  · rename_i g
    have hs := Classical.choose_spec (least g)
    have e : Classical.choose (least g) = i := by omega
    rw [e] at hs
    exact hs.2 j hj ⟨by omega, hp⟩
  · omega
theorem GO_vp {l : List Br} {a2 : Int} {a3 a4 a5 : Bool} (h : VJ l a2 a3 a4 a5) : VP (GO l a3 a4 a5).1 a2 a3 a4 (GO l a3 a4 a5).2.1 := by
  unfold GO
  cases a5
  · rw [if_neg (by decide)]
    have hw : a2 < 0 := by
      rcases Int.lt_or_le a2 0 with k | k
      · exact k
      · have := (h.win k).2.2.1; cases this
    by_cases h1 : 0 ≤ fdx Op l
    · rw [if_pos h1]
      obtain ⟨i, _, i1, i2⟩ := fdx_pos h1
      exact h.vp fun _ => ⟨i, i1, i2⟩
    · rw [if_neg h1]
      have hno := fdx_neg.1 (show fdx Op l < 0 by omega)
      by_cases h2 : a4 = true ∨ fdx Wa l < 0
      · rw [if_pos h2]
        have hl : (l.map fsk).length = l.length := by simp
        refine ⟨by rw [hl]; exact h.len, h.w0, by rw [hl]; exact h.w1, fun i hi => ?_, fun k => absurd hw (by omega), h.can, (fun k => by cases k), fun _ _ => ?_⟩
        · rw [hl] at hi
          have hb := h.br i hi
          refine brOk_of hb (fun k hk => ?_) ?_ (fun k hk e1 e2 => ?_) ?_
          · rw [getD_map (by omega)]
            obtain ⟨f1, f2, f3, f4⟩ := fsk_fac (l.getD k d0)
            exact ⟨f1, f2, by unfold Er; omega⟩
          · rw [getD_map hi]
            obtain ⟨f1, f2, f3, f4⟩ := fsk_fac (l.getD i d0)
            have := hb.1.s; have := hb.1.c5; have := hb.1.c0
            rw [f3]
            omega
          · rw [getD_map hi, getD_map (by omega)]
            obtain ⟨f1, f2, f3, f4⟩ := fsk_fac (l.getD i d0)
            obtain ⟨g1, g2, g3, g4⟩ := fsk_fac (l.getD k d0)
            unfold Er at e1 e2
            omega
          · rw [getD_map hi]
            obtain ⟨f1, f2, f3, f4⟩ := fsk_fac (l.getD i d0)
            have h3 := hb.2.2
            refine ⟨fun _ => rfl, fun k => by omega, fun k1 k2 k3 => h3.w (by omega) (by omega) k3, fun k => h3.r (by omega), fun k g => h3.li k (by omega), fun k g => h3.st k (by omega)⟩
        · rintro ⟨i, i1, i2⟩
          rw [hl] at i1
          rw [getD_map i1] at i2
          obtain ⟨f1, f2, f3, f4⟩ := fsk_fac (l.getD i d0)
          exact hno ⟨i, i1, by unfold Op at *; omega⟩
      · rw [if_neg h2]
        have ha4 : a4 = false := by cases a4; rfl; exact (h2 (.inl rfl)).elim
        obtain ⟨f, e, hf, hfw⟩ := fdx_pos (p := Wa) (l := l) (by rcases Int.lt_or_le (fdx Wa l) 0 with k | k; exact (h2 (.inr k)).elim; exact k)
        have hmin := fdx_min e
        rw [e, Int.toNat_natCast]
        have hbf := h.br f hf
        obtain ⟨Q, hQ⟩ : ∃ Q, (l.getD f d0).2.1 = Q := ⟨_, rfl⟩
        rw [hQ]
        have hl : (l.map (fsn Q)).length = l.length := by simp
        have hn6 : ∀ k, k < l.length → (l.getD k d0).2.2.1 ≠ 6 := fun k hk g => by have := (h.br k hk).2.2.k6 g; cases this
        refine ⟨by rw [hl]; exact h.len, h.w0, by rw [hl]; exact h.w1, fun i hi => ?_, fun k => absurd hw (by omega), h.can, fun _ => ⟨f, by rw [hl]; exact hf, ?_⟩, (fun k => by cases k)⟩
        · rw [hl] at hi
          have hb := h.br i hi
          obtain ⟨f1, f2, f3, f4⟩ := fsn_fac Q (l.getD i d0)
          have hb1 := hb.1
          have h3 := hb.2.2
          have b5 := hb1.c5
          have b0 := hb1.c0
          have bs := hb1.s
          have n6 := hn6 i hi
          unfold BrOk
          rw [getD_map hi]
          refine ⟨⟨by rw [f1]; exact hb1.u, by rw [f2]; exact hb1.q0, by rw [f2]; exact hb1.q1, by omega, fun g => by rw [f3]; omega, fun g => by rw [f3]; omega⟩, fun k hk => ?_, ⟨fun g => by omega, fun g => rfl, fun g1 g2 g3 => h3.w (by omega) (by omega) g3, fun g => h3.r (by omega), (fun g => by rw [ha4] at g; cases g), fun g g' => h3.st g (by omega)⟩⟩
          rw [getD_map (by omega)]
          obtain ⟨g1, g2, g3, g4⟩ := fsn_fac Q (l.getD k d0)
          have hx := hb.2.1 k hk
          have m6 := hn6 k (by omega)
          have hxq := hx.q
          refine ⟨by rw [f1, g1]; exact hx.u, by rw [f2, g2]; exact hx.q, fun er => ?_, fun er er' => ?_, fun er er' => ?_⟩
          · have k0 : (l.getD k d0).2.2.1 = 0 ∧ (l.getD k d0).2.1 ≠ Q := by unfold Er at er; omega
            have i0 : (l.getD i d0).2.2.1 = 0 := by
              have := hx.e1 (.inl k0.1)
              unfold Er at this; omega
            have hfk : ¬ k < f := fun g => hmin k g k0.1
            have hlt : (l.getD k d0).2.1 < Q := by
              by_cases ef : f = k
              · subst ef; exact (k0.2 hQ).elim
              · have := ((h.br k (by omega)).2.1 f (by omega)).q
                omega
            unfold Er; omega
          · rw [f2, g2]
            unfold Er at er er'
            rcases g4 with g4 | g4
            · omega
            · exact hx.e2 (by unfold Er; omega) (by unfold Er; omega)
          · unfold Er at er er'
            omega
        · rw [getD_map hf]
          obtain ⟨f1, f2, f3, f4⟩ := fsn_fac Q (l.getD f d0)
          unfold Op
          have : (l.getD f d0).2.2.1 = 0 := hfw
          omega
  · rw [if_pos rfl]
    exact h.vp fun k => by cases k
end Go.Proofs.Ytheicchelhjcjaa
