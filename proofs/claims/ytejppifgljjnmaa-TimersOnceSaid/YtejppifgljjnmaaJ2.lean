/- Chapter 10, plain: lists of timers and the table of their times. -/
import Derived.Test.YtejppifgljjnmaaJ1
set_option linter.unusedVariables false
set_option linter.unusedSimpArgs false
set_option maxRecDepth 100000
namespace Go.Proofs.Ytejppifgljjnmaa
open Go.RowKit

/-- A list that is in order. -/
structure VS (l : List Tm) : Prop where
  len : l.length ≤ 1000
  pw : l.Pairwise fun x y => x.1 ≤ y.1
  at_ : ∀ x ∈ l, 0 ≤ x.1 ∧ x.1 ≤ 1099511627776
theorem mem_getD {l : List Tm} {n : Nat} (h : n < l.length) : l.getD n t0 ∈ l := by
  rw [List.getD_eq_getElem?_getD, List.getElem?_eq_getElem h]; exact List.getElem_mem h
theorem pw_getD {l : List Tm} {R : Tm → Tm → Prop} (h : l.Pairwise R) {i j : Nat} (hij : i < j) (hj : j < l.length) : R (l.getD i t0) (l.getD j t0) := by
  rw [List.getD_eq_getElem?_getD, List.getD_eq_getElem?_getD, List.getElem?_eq_getElem hj, List.getElem?_eq_getElem (by omega)]
  exact List.pairwise_iff_getElem.1 h i j (by omega) hj hij
theorem VS.vt {l : List Tm} (h : VS l) : VT l := by
  refine ⟨h.len, fun n hn => ⟨?_, (h.at_ _ (mem_getD hn)).2⟩⟩
  unfold pv
  by_cases e : n = 0
  · rw [if_pos e]; exact (h.at_ _ (mem_getD hn)).1
  · rw [if_neg e]; exact pw_getD h.pw (show n - 1 < n by omega) hn
theorem VS.filter {l : List Tm} (h : VS l) (p : Tm → Bool) : VS (l.filter p) :=
  ⟨Nat.le_trans (List.length_filter_le _ _) h.len, h.pw.filter p, fun x hx => h.at_ x (List.mem_filter.1 hx).1⟩
theorem mem_take_lt {l : List Tm} {p : Nat} {x : Tm} (hx : x ∈ l.take p) : ∃ j, j < p ∧ j < l.length ∧ l.getD j t0 = x := by
  obtain ⟨j, hj, e⟩ := List.mem_iff_getElem.1 hx
  rw [List.length_take] at hj
  refine ⟨j, by omega, by omega, ?_⟩
  rw [List.getD_eq_getElem?_getD, List.getElem?_eq_getElem (by omega)]
  rw [List.getElem_take] at e
  exact e
theorem VS.add {l : List Tm} (h : VS l) {a o k : Int} {p : Nat} (hp : PLC l a p) (ha : 0 ≤ a ∧ a ≤ 1099511627776) (hl : l.length < 1000) : VS (l.take p ++ (a, (o, k)) :: l.drop p) := by
  obtain ⟨p1, p2, p3⟩ := hp
  have hsplit := h.pw
  rw [← List.take_append_drop p l, List.pairwise_append] at hsplit
  obtain ⟨q1, q2, q3⟩ := hsplit
  have ht : ∀ x ∈ l.take p, x.1 ≤ a := fun x hx => by
    obtain ⟨j, j1, j2, e⟩ := mem_take_lt hx
    rw [← e]; exact p2 j j1
  have hd : ∀ x ∈ l.drop p, a ≤ x.1 := fun x hx => by
    rcases Nat.lt_or_ge p l.length with g | g
    · have h0 := p3 g
      have e : l.drop p = l.getD p t0 :: l.drop (p + 1) := by
        rw [List.drop_eq_getElem_cons g, List.getD_eq_getElem?_getD, List.getElem?_eq_getElem g]; rfl
      rw [e] at hx q2
      rcases List.mem_cons.1 hx with hx | hx
      · rw [hx]; omega
      · have := (List.pairwise_cons.1 q2).1 x hx
        omega
    · rw [List.drop_eq_nil_of_le g] at hx; cases hx
  refine ⟨?_, ?_, fun x hx => ?_⟩
  · rw [List.length_append, List.length_cons, List.length_take, List.length_drop]; omega
  · rw [List.pairwise_append, List.pairwise_cons]
    refine ⟨q1, ⟨hd, q2⟩, fun x hx y hy => ?_⟩
    rcases List.mem_cons.1 hy with hy | hy
    · rw [hy]; exact ht x hx
    · exact q3 x hx y hy
  · rcases List.mem_append.1 hx with hx | hx
    · exact h.at_ x (List.mem_of_mem_take hx)
    · rcases List.mem_cons.1 hx with hx | hx
      · rw [hx]; exact ha
      · exact h.at_ x (List.mem_of_mem_drop hx)
/-- Where an owner's and kind's time stands. -/
def key (x : Tm) : Nat := (4 * x.2.1 + x.2.2).toNat
abbrev In4 (n : Int) : Prop := 0 ≤ n ∧ n ≤ 3
/-- A list has exactly the timers of a table. -/
structure KR (l : List Tm) (d : Nat → Int) : Prop where
  ok : ∀ x ∈ l, In4 x.2.1 ∧ In4 x.2.2 ∧ 0 ≤ x.1 ∧ d (key x) = x.1 + 1
  pw : l.Pairwise fun x y => ¬ (x.2.1 = y.2.1 ∧ x.2.2 = y.2.2)
  nn : ∀ i, i < 16 → 0 ≤ d i ∧ (0 < d i → ∃ x ∈ l, key x = i)
theorem key_inj {x y : Tm} (h1 : In4 x.2.1) (h2 : In4 x.2.2) (h3 : In4 y.2.1) (h4 : In4 y.2.2) (h : key x = key y) : x.2.1 = y.2.1 ∧ x.2.2 = y.2.2 := by
  unfold key at h; omega
theorem KR.congr {l : List Tm} {d d' : Nat → Int} (h : KR l d) (e : ∀ i, i < 16 → d' i = d i) : KR l d' := by
  refine ⟨fun x hx => ?_, h.pw, fun i hi => by rw [e i hi]; exact h.nn i hi⟩
  obtain ⟨h1, h2, h3, h4⟩ := h.ok x hx
  exact ⟨h1, h2, h3, by rw [e _ (by unfold key; omega)]; exact h4⟩
theorem KR.nil : KR [] (fun _ => 0) := ⟨(fun x hx => by cases hx), List.Pairwise.nil, fun i hi => ⟨Int.le_refl 0, fun g => by simp at g⟩⟩
theorem KR.filter {l : List Tm} {d : Nat → Int} (h : KR l d) (S : Nat → Bool) {p : Tm → Bool} (hp : ∀ x ∈ l, p x = S (key x)) : KR (l.filter p) (fun i => if S i = true then d i else 0) := by
  refine ⟨fun x hx => ?_, h.pw.filter p, fun i hi => ?_⟩
  · obtain ⟨hx1, hx2⟩ := List.mem_filter.1 hx
    obtain ⟨h1, h2, h3, h4⟩ := h.ok x hx1
    rw [hp x hx1] at hx2
    exact ⟨h1, h2, h3, by simp only [hx2, if_true]; exact h4⟩
  · obtain ⟨h1, h2⟩ := h.nn i hi
    by_cases g : S i = true
    · simp only [g, if_true]
      refine ⟨h1, fun k => ?_⟩
      obtain ⟨x, hx, e⟩ := h2 k
      exact ⟨x, List.mem_filter.2 ⟨hx, by rw [hp x hx, e]; exact g⟩, e⟩
    · rw [if_neg g]
      exact ⟨Int.le_refl 0, fun k => by simp at k⟩
theorem KR.add {l : List Tm} {d : Nat → Int} (h : KR l d) {a o k : Int} (p : Nat) (ho : In4 o) (hk : In4 k) (ha : 0 ≤ a) (hno : ∀ x ∈ l, ¬ (x.2.1 = o ∧ x.2.2 = k)) :
    KR (l.take p ++ (a, (o, k)) :: l.drop p) (fun i => if i = key (a, (o, k)) then a + 1 else d i) := by
  have hmem : ∀ x, x ∈ l.take p ++ (a, (o, k)) :: l.drop p ↔ x = (a, (o, k)) ∨ x ∈ l := fun x => by
    rw [List.mem_append, List.mem_cons]
    have : x ∈ l ↔ x ∈ l.take p ∨ x ∈ l.drop p := by rw [← List.mem_append, List.take_append_drop]
    rw [this]
    constructor
    · rintro (h | h | h)
      · exact .inr (.inl h)
      · exact .inl h
      · exact .inr (.inr h)
    · rintro (h | h | h)
      · exact .inr (.inl h)
      · exact .inl h
      · exact .inr (.inr h)
  refine ⟨fun x hx => ?_, ?_, fun i hi => ?_⟩
  · rcases (hmem x).1 hx with e | hx
    · subst e
      exact ⟨ho, hk, ha, by simp⟩
    · obtain ⟨h1, h2, h3, h4⟩ := h.ok x hx
      have hne : key x ≠ key (a, (o, k)) := fun e => hno x hx (key_inj h1 h2 ho hk e)
      exact ⟨h1, h2, h3, by simp only [hne, if_false]; exact h4⟩
  · have hs := h.pw
    rw [← List.take_append_drop p l, List.pairwise_append] at hs
    obtain ⟨q1, q2, q3⟩ := hs
    rw [List.pairwise_append, List.pairwise_cons]
    refine ⟨q1, ⟨fun y hy => ?_, q2⟩, fun x hx y hy => ?_⟩
    · have := hno y (List.mem_of_mem_drop hy)
      exact fun g => this ⟨g.1.symm, g.2.symm⟩
    · rcases List.mem_cons.1 hy with e | hy
      · subst e; exact hno x (List.mem_of_mem_take hx)
      · exact q3 x hx y hy
  · obtain ⟨h1, h2⟩ := h.nn i hi
    by_cases e : i = key (a, (o, k))
    · simp only [e, if_true]
      exact ⟨by omega, fun _ => ⟨_, (hmem _).2 (.inl rfl), rfl⟩⟩
    · simp only [e, if_false]
      refine ⟨h1, fun g => ?_⟩
      obtain ⟨x, hx, k⟩ := h2 g
      exact ⟨x, (hmem x).2 (.inr hx), k⟩
theorem cnt_one {p : Nat → Bool} {a : Nat} (ha : p a = true) : ∀ {n : Nat}, ((a < n → (List.range n).countP p = (List.range n).countP (fun i => p i && i != a) + 1) ∧ (¬ a < n → (List.range n).countP p = (List.range n).countP (fun i => p i && i != a)))
  | 0 => ⟨fun h => by omega, fun _ => rfl⟩
  | n + 1 => by
    obtain ⟨h1, h2⟩ := cnt_one (p := p) ha (n := n)
    simp only [List.range_succ, List.countP_append, List.countP_cons, List.countP_nil, Nat.zero_add]
    by_cases e : n = a
    · subst e
      rw [h2 (by omega)]
      simp [ha]
    · have : (n != a) = true := by simp [e]
      rw [this, Bool.and_true]
      refine ⟨fun g => ?_, fun g => ?_⟩
      · rw [h1 (by omega)]; omega
      · rw [h2 (by omega)]
theorem KR.cnt : ∀ {l : List Tm} {d : Nat → Int}, KR l d → (List.range 16).countP (fun i => decide (0 < d i)) = l.length
  | [], d, h => by
    rw [List.length_nil, List.countP_eq_zero]
    intro i hi g
    obtain ⟨x, hx, _⟩ := (h.nn i (List.mem_range.1 hi)).2 (of_decide_eq_true g)
    cases hx
  | x :: l, d, h => by
    obtain ⟨h1, h2, h3, h4⟩ := h.ok x List.mem_cons_self
    have hp := List.pairwise_cons.1 h.pw
    have hk : key x < 16 := by unfold key; omega
    have h' : KR l (fun i => if i = key x then 0 else d i) := by
      refine ⟨fun y hy => ?_, hp.2, fun i hi => ?_⟩
      · obtain ⟨g1, g2, g3, g4⟩ := h.ok y (List.mem_cons_of_mem _ hy)
        have hne : key y ≠ key x := fun e => hp.1 y hy (key_inj h1 h2 g1 g2 e.symm)
        exact ⟨g1, g2, g3, by simp only [hne, if_false]; exact g4⟩
      · obtain ⟨g1, g2⟩ := h.nn i hi
        by_cases e : i = key x
        · simp only [e, if_true]; exact ⟨by decide, fun k => by simp at k⟩
        · simp only [e, if_false]
          refine ⟨g1, fun k => ?_⟩
          obtain ⟨y, hy, ey⟩ := g2 k
          rcases List.mem_cons.1 hy with hy | hy
          · subst hy; exact (e ey.symm).elim
          · exact ⟨y, hy, ey⟩
    have hc := (cnt_one (p := fun i => decide (0 < d i)) (a := key x) (by simp only [h4]; exact decide_eq_true (by omega)) (n := 16)).1 hk
    rw [hc, List.length_cons, ← h'.cnt]
    congr 1
    apply List.countP_congr
    intro i hi
    by_cases e : i = key x
    · simp [e]
    · simp [e]
theorem KR.len {l : List Tm} {d : Nat → Int} (h : KR l d) : l.length ≤ 16 := by
  rw [← h.cnt]
  exact Nat.le_trans List.countP_le_length (by simp)
end Go.Proofs.Ytejppifgljjnmaa
