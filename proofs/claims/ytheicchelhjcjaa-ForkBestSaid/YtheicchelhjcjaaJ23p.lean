import Derived.Test.YtheicchelhjcjaaJ22p
set_option linter.unusedVariables false
set_option linter.unusedSimpArgs false
set_option maxRecDepth 100000
namespace Go.Proofs.Ytheicchelhjcjaa
open Go.RowKit
theorem getD_setB {l : List Br} {i j : Nat} {y : Br} (h : j < l.length) : (List.set l i y).getD j d0 = if i = j then y else l.getD j d0 := by
  rw [List.getD_eq_getElem?_getD, List.getElem?_set]
  by_cases e : i = j
  · subst e; rw [if_pos rfl, if_pos rfl, if_pos h]; rfl
  · rw [if_neg e, if_neg e, List.getD_eq_getElem?_getD]
theorem rn_yes {tk : List In} {c i : Int} : rn (tk ++ [(1, (i, c))]) i = rn tk i + 1 := by rw [rn_app, rn_one, if_pos ⟨rfl, rfl⟩]
theorem rn_oth {tk : List In} {b c i : Int} (h : b ≠ i) : rn (tk ++ [(1, (b, c))]) i = rn tk i := by rw [rn_app, rn_one, if_neg (fun g => h g.2)]; rfl
theorem ovn_1 {tk : List In} {b c : Int} : ovn (tk ++ [(1, (b, c))]) = ovn tk := by rw [ovn_app, ovn_one, if_neg (by omega)]; rfl
theorem INV.set {l : List Br} {a2 : Int} {a3 a4 a5 : Bool} {A B : List Ac} {tk : List In} {i : Nat} {s' c : Int} (h : INV l a2 a3 a4 a5 A tk) (hv : VP l a2 a3 a4 a5) (hi : i < l.length) (ho : Op (l.getD i d0))
    (hB : ∀ x ∈ B, x.1 = 3 ∨ (x.1 = 2 ∧ x.2.1 = (i : Int))) (hb : BI s' (l.getD i d0).2.2.2 a2 i (cN A 4 i) (cN A 5 i) (cN A 2 i + cN B 2 i) (rn tk i + 1) (b1 a4)) :
    INV (List.set l i ((l.getD i d0).1, ((l.getD i d0).2.1, (s', (l.getD i d0).2.2.2)))) a2 a3 a4 a5 (A ++ B) (tk ++ [(1, ((i : Int), c))]) := by
  have z4 : ∀ j : Int, cN B 4 j = 0 := fun j => List.countP_eq_zero.2 fun x hx => by
    rcases hB x hx with k | ⟨k, _⟩ <;> simp [k]
  have z5 : ∀ j : Int, cN B 5 j = 0 := fun j => List.countP_eq_zero.2 fun x hx => by
    rcases hB x hx with k | ⟨k, _⟩ <;> simp [k]
  have z2 : ∀ j : Int, (i : Int) ≠ j → cN B 2 j = 0 := fun j hj => List.countP_eq_zero.2 fun x hx => by
    rcases hB x hx with k | ⟨k, k'⟩
    · simp [k]
    · simp [k, k', hj]
  have a4' : aL B 4 = 0 := List.countP_eq_zero.2 fun x hx => by
    rcases hB x hx with k | ⟨k, _⟩ <;> simp [k]
  have a6' : aL B 6 = 0 := List.countP_eq_zero.2 fun x hx => by
    rcases hB x hx with k | ⟨k, _⟩ <;> simp [k]
  refine ⟨fun j hj => ?_, ?_, ?_, fun g => ?_, fun x hx g => ?_⟩
  · rw [List.length_set] at hj
    rw [getD_setB hj, cN_app, cN_app, cN_app, z4, z5]
    by_cases e : i = j
    · subst e
      rw [if_pos rfl, rn_yes]
      exact hb
    · rw [if_neg e, z2 j (by omega), rn_oth (by omega)]
      exact h.br j hj
  · rw [aL_app, aL_app, a4', a6']
    exact h.fa
  · rw [ovn_1, aL_app, a4']
    exact h.ov
  · rcases h.cl g with k | k | ⟨j, hj, h5, h6⟩
    · exact .inl k
    · exact .inr (.inl k)
    · refine .inr (.inr ⟨j, by rw [List.length_set]; exact hj, ?_⟩)
      have e : i ≠ j := fun e => by subst e; unfold Op at ho; omega
      rw [getD_setB hj, if_neg e]
      exact ⟨h5, h6⟩
  · rcases List.mem_append.1 hx with hx | hx
    · exact (h.nof hv hi ho x hx g).elim
    · rcases hB x hx with k | ⟨k, _⟩ <;> omega
theorem set_same {l : List Br} {i : Nat} (hi : i < l.length) : List.set l i ((l.getD i d0).1, ((l.getD i d0).2.1, ((l.getD i d0).2.2.1, (l.getD i d0).2.2.2))) = l := by
  apply List.ext_getElem?
  intro j
  rw [List.getElem?_set]
  by_cases e : i = j
  · subst e
    rw [if_pos rfl, if_pos hi, getD_get d0 hi, List.getElem?_eq_getElem hi]
  · rw [if_neg e]
theorem INV.pv {l : List Br} {a2 : Int} {a3 a4 a5 : Bool} {A : List Ac} {tk : List In} {i : Nat} {c : Int} (h : INV l a2 a3 a4 a5 A tk) (hv : VP l a2 a3 a4 a5) (hi : i < l.length) (ho : Op (l.getD i d0)) :
    INV (PV l i c).1 a2 a3 a4 a5 (A ++ (PV l i c).2) (tk ++ [(1, ((i : Int), c))]) := by
  have hb := h.br i hi
  have hB3 := (hv.br i hi).2.2
  unfold PV
  unfold Op at ho
  by_cases h1 : (l.getD i d0).2.2.1 = 1
  · rw [if_pos h1]
    refine h.set hv hi ho (fun x hx => ?_) ?_
    · split at hx
      · rw [List.mem_singleton] at hx; subst hx; exact .inl rfl
      · cases hx
    · have e : cN (if c > 100 then [(3, ((i : Int), c))] else []) 2 i = 0 := by
        split
        · exact cN_ne (by decide)
        · rfl
      rw [e]
      exact hb.ring (.inl h1)
  · rw [if_neg h1]
    by_cases h3 : (l.getD i d0).2.2.1 = 3
    · rw [if_pos h3]
      refine h.set hv hi ho (fun x hx => ?_) ?_
      · rw [List.mem_singleton] at hx; subst hx; exact .inr ⟨rfl, rfl⟩
      · rw [cN_eq]
        refine hb.pend h3 ?_
        cases a4 with
        | true => rfl
        | false => exact (hB3.st rfl (.inl h3)).elim
    · rw [if_neg h3]
      have key := h.set (c := c) (s' := (l.getD i d0).2.2.1) (B := if (l.getD i d0).2.2.1 = 2 ∧ c > 100 then [(3, ((i : Int), c))] else []) hv hi ho (fun x hx => by
        split at hx
        · rw [List.mem_singleton] at hx; subst hx; exact .inl rfl
        · cases hx) (by
        have e : cN (if (l.getD i d0).2.2.1 = 2 ∧ c > 100 then [(3, ((i : Int), c))] else []) 2 i = 0 := by
          split
          · exact cN_ne (by decide)
          · rfl
        rw [e]
        by_cases h2 : (l.getD i d0).2.2.1 = 2
        · have := hb.ring (.inr h2); rw [h2]; exact this
        · have h4 : (l.getD i d0).2.2.1 = 4 := by omega
          have := hb.ring4 h4; rw [h4]; exact this)
      rw [set_same hi] at key
      exact key
theorem INV.fi {l : List Br} {a2 : Int} {a3 a4 a5 : Bool} {A : List Ac} {tk : List In} {i : Nat} {c k c' : Int} (h : INV l a2 a3 a4 a5 A tk) (hv : VP l a2 a3 a4 a5) (hN : NN l) (hi : i < l.length) (ho : Op (l.getD i d0)) (hc : 200 ≤ c ∧ c ≤ 699) (hk : k ≠ 1) (hov : ovn [(k, ((i : Int), c'))] = if c ≥ 600 then 1 else 0) :
    INV (FIN l a2 a3 a4 a5 i c).1.1 (FIN l a2 a3 a4 a5 i c).1.2.1 (FIN l a2 a3 a4 a5 i c).1.2.2.1 (FIN l a2 a3 a4 a5 i c).1.2.2.2.1 (FIN l a2 a3 a4 a5 i c).1.2.2.2.2 (A ++ (FIN l a2 a3 a4 a5 i c).2) (tk ++ [(k, ((i : Int), c'))]) := by
  unfold FIN
  by_cases h1 : c < 300 ∧ a5 = false ∧ a3 = false
  · rw [if_pos h1]
    obtain ⟨h1, rfl, rfl⟩ := h1
    exact h.win hv hi ho h1 hk _ _
  · rw [if_neg h1]
    have hc1 : c < 300 → a5 = true ∨ a3 = true := fun g => by
      cases a5 <;> cases a3 <;> simp at h1 ⊢
      omega
    by_cases h2 : c < 300
    · rw [if_pos h2]
      have h0 : ovn [(k, ((i : Int), c'))] = 0 := by rw [hov, if_neg (by omega)]
      have hj := vjA hv hi ho hc hc1 (fun g => by omega)
      have := (h.rel hv hi ho h2 hk h0).go hj (fs_nn hN)
      rw [List.append_assoc] at this
      exact this
    · rw [if_neg h2]
      by_cases h3 : c ≥ 600
      · rw [if_pos h3]
        have h0 : 0 < ovn [(k, ((i : Int), c'))] := by rw [hov, if_pos h3]; decide
        have hj := vjB hv hi ho hc (by omega)
        have := (h.all hv hi ho h3 hk h0).go hj (fst1_nn (fs_nn hN))
        rw [List.append_assoc] at this
        exact this
      · rw [if_neg h3]
        have h0 : ovn [(k, ((i : Int), c'))] = 0 := by rw [hov, if_neg (by omega)]
        have hj := vjA hv hi ho hc hc1 (fun g => by omega)
        exact (h.fin hv hi ho (by omega) hk h0).go hj (fs_nn hN)
theorem INV.step {l : List Br} {a2 : Int} {a3 a4 a5 : Bool} {A : List Ac} {tk : List In} {k b c : Int} (h : INV l a2 a3 a4 a5 A tk) (hN : NN l) (hc : CKO l a2 a3 a4 a5 k b c) :
    INV (STC l a2 a3 a4 a5 k b c).1.1 (STC l a2 a3 a4 a5 k b c).1.2.1 (STC l a2 a3 a4 a5 k b c).1.2.2.1 (STC l a2 a3 a4 a5 k b c).1.2.2.2.1 (STC l a2 a3 a4 a5 k b c).1.2.2.2.2 (A ++ (STC l a2 a3 a4 a5 k b c).2) (tk ++ [(k, (b, c))]) := by
  unfold STC
  by_cases k1 : k = 1
  · rw [if_pos k1]
    obtain ⟨g1, g2, g3⟩ := hc.b0 (by omega)
    obtain ⟨i, rfl⟩ : ∃ i : Nat, b = (i : Int) := ⟨b.toNat, by omega⟩
    rw [Int.toNat_natCast] at g3 ⊢
    subst k1
    exact h.pv hc.v (by omega) g3
  · rw [if_neg k1]
    by_cases k2 : k = 2
    · rw [if_pos k2]
      obtain ⟨g1, g2, g3⟩ := hc.b0 (by omega)
      obtain ⟨i, rfl⟩ : ∃ i : Nat, b = (i : Int) := ⟨b.toNat, by omega⟩
      rw [Int.toNat_natCast] at g3 ⊢
      refine h.fi hc.v hN (by omega) g3 (hc.c2 k2) (by omega) ?_
      rw [ovn_one]
      by_cases h6 : c ≥ 600
      · rw [if_pos (.inr ⟨k2, h6⟩), if_pos h6]
      · rw [if_neg (by show ¬ (k = 4 ∨ k = 2 ∧ c ≥ 600); omega), if_neg h6]
    · rw [if_neg k2]
      by_cases k3 : k = 3
      · rw [if_pos k3]
        obtain ⟨g1, g2, g3⟩ := hc.b0 (by omega)
        obtain ⟨i, rfl⟩ : ∃ i : Nat, b = (i : Int) := ⟨b.toNat, by omega⟩
        rw [Int.toNat_natCast] at g3 ⊢
        refine h.fi hc.v hN (by omega) g3 (by decide) (by omega) ?_
        rw [ovn_one, if_neg (by show ¬ (k = 4 ∨ k = 2 ∧ c ≥ 600); omega), if_neg (by decide)]
      · rw [if_neg k3]
        have k4 : k = 4 := by have := hc.k1; have := hc.k4; omega
        subst k4
        obtain ⟨rfl, rfl⟩ := hc.c4 rfl
        exact h.can b c
theorem srt_0 {T : List Tg} {n j : Nat} (hj : j < (SRT T n).length) : ((SRT T n).getD j d0).2.2.1 = 0 ∧ ((SRT T n).getD j d0).2.2.2 = 0 := by
  have hm : (SRT T n).getD j d0 ∈ SRT T n := by rw [getD_get d0 hj]; exact List.getElem_mem hj
  obtain ⟨k, _, k2⟩ := mem_SRT.1 hm
  rw [← k2]
  exact ⟨rfl, rfl⟩
theorem srt_nn' {T : List Tg} (n : Nat) : NN (SRT T n) := fun j hj => by rw [(srt_0 hj).1]; decide
theorem RS.inv {F : Fk} {A : List Ac} {tk : List In} (h : RS F A tk) : VF F ∧ NN F.1 ∧ INV F.1 F.2.1 F.2.2.1 F.2.2.2.1 F.2.2.2.2 A tk := by
  induction h with
  | @new T hl h =>
    have hj := srt_vj hl h
    have hn := srt_nn' (T := T) T.length
    refine ⟨GO_vp hj, (GO_sd hj hn).1, ?_⟩
    have h0 : INV (SRT T T.length) (-1) false false false [] [] := by
      refine ⟨fun i hi => ?_, rfl, by simp [ovn, aL], (fun g => by cases g), (fun x hx => by cases hx)⟩
      obtain ⟨e1, e2⟩ := srt_0 hi
      rw [e1, e2]
      show BI 0 0 (-1) i 0 0 0 0 0
      unfold BI
      omega
    have := h0.go hj hn
    rw [List.nil_append] at this
    exact this
  | @step l a2 a3 a4 a5 A tk k b c h hc ih =>
    obtain ⟨h1, h2, h3⟩ := ih
    exact ⟨stc_vp hc, (stc_sp hc h2).nn, h3.step h2 hc⟩
end Go.Proofs.Ytheicchelhjcjaa
