import Derived.Test.YtkmfgldoljegoaaM1p
set_option linter.unusedVariables false
set_option linter.unusedSimpArgs false
set_option maxRecDepth 100000
namespace Go.Proofs.Ytkmfgldoljegoaa
open Go.RowKit
structure VF (n : Nat) (C : Nat → Ca) (m : Nat) (S : Nat → Se) (now : Int) : Prop where
  ca : ∀ i, i < n → 1 ≤ (C i).1 ∧ (C i).1 ≤ 2147483647 ∧ 0 ≤ (C i).2.1 ∧ (C i).2.1 ≤ 10 ∧ 0 ≤ (C i).2.2.1 ∧ (C i).2.2.1 ≤ now
  cd : ∀ i j, i < j → j < n → (C i).1 ≠ (C j).1 ∧ (C i).2.2.1 ≤ (C j).2.2.1
  se : ∀ k, k < m → 1 ≤ (S k).1 ∧ (S k).1 ≤ 2147483647 ∧ 1 ≤ (S k).2.1 ∧ (S k).2.1 ≤ 4 ∧ 0 ≤ (S k).2.2.1 ∧ (S k).2.2.1 ≤ now ∧ 0 ≤ (S k).2.2.2.2 ∧ (S k).2.2.2.2 ≤ 2147483647
  sd : ∀ j k, j < k → k < m → (S j).1 < (S k).1
  f0 : ∀ k, k < m → (S k).2.1 = 1 ∨ (S k).2.1 = 4 → (S k).2.2.2.1 = 0
  f1 : ∀ k, k < m → (S k).2.1 = 3 → 1 ≤ (S k).2.2.2.1 ∧ (S k).2.2.2.1 ≤ 2147483647
  l1 : ∀ i, i < n → (C i).2.2.2 ≠ 0 → ∃ k, k < m ∧ (S k).1 = (C i).2.2.2 ∧ (S k).2.1 = 2 ∧ (S k).2.2.2.1 = (C i).1
  l2 : ∀ k, k < m → (S k).2.1 = 2 → ∃ i, i < n ∧ (C i).1 = (S k).2.2.2.1 ∧ (C i).2.2.2 = (S k).1
  b1 : ∀ k, k < m → (S k).2.1 = 3 → ∀ i, i < n → (C i).1 ≠ (S k).2.2.2.1
  b2 : ∀ j k, j < k → k < m → (S j).2.1 = 3 → (S k).2.1 = 3 → (S j).2.2.2.1 ≠ (S k).2.2.2.1
section
variable {n m : Nat} {C : Nat → Ca} {S : Nat → Se} {now : Int}
theorem VF.cinj (h : VF n C m S now) {i j : Nat} (hi : i < n) (hj : j < n) (e : (C i).1 = (C j).1) : i = j := by
  rcases Nat.lt_trichotomy i j with k | k | k
  · exact absurd e (h.cd i j k hj).1
  · exact k
  · exact absurd e.symm (h.cd j i k hi).1
theorem VF.sinj (h : VF n C m S now) {i j : Nat} (hi : i < m) (hj : j < m) (e : (S i).1 = (S j).1) : i = j := by
  rcases Nat.lt_trichotomy i j with k | k | k
  · have := h.sd i j k hj; omega
  · exact k
  · have := h.sd j i k hi; omega
theorem VF.match (h : VF n C m S now) {i k : Nat} (hi : i < n) (hk : k < m) (ha : (C i).2.2.2 = 0) (hs : (S k).2.1 = 1) (h0 : 0 ≤ now) :
    VF n (fun j => if j = i then ((C i).1, ((C i).2.1, ((C i).2.2.1, (S k).1))) else C j) m (fun j => if j = k then ((S k).1, (2, (now, ((C i).1, (S k).2.2.2.2)))) else S j) now := by
  have hid := h.se k hk
  constructor
  · intro j hj; have := h.ca j hj; have := h.ca i hi; grind
  · intro a b hab hb; have := h.cd a b hab hb; grind
  · intro j hj; have := h.se j hj; grind
  · intro a b hab hb; have := h.sd a b hab hb; grind
  · intro j hj; have := h.f0 j hj; grind
  · intro j hj; have := h.f1 j hj; grind
  · intro j hj hne
    by_cases e : j = i
    · subst e; exact ⟨k, hk, by simp⟩
    · simp only [if_neg e] at hne ⊢
      obtain ⟨q, q1, q2, q3, q4⟩ := h.l1 j hj hne
      have hq : q ≠ k := by rintro rfl; omega
      exact ⟨q, q1, by simp only [if_neg hq]; exact ⟨q2, q3, q4⟩⟩
  · intro j hj hst
    by_cases e : j = k
    · subst e; exact ⟨i, hi, by simp⟩
    · simp only [if_neg e] at hst ⊢
      obtain ⟨q, q1, q2, q3⟩ := h.l2 j hj hst
      have hq : q ≠ i := by
        rintro rfl
        have := h.se j hj
        omega
      exact ⟨q, q1, by simp only [if_neg hq]; exact ⟨q2, q3⟩⟩
  · intro j hj hst q hq
    have := h.b1 j hj
    have := h.ca
    grind
  · intro a b hab hb
    have := h.b2 a b hab hb
    grind
theorem VF.silence (h : VF n C m S now) {i k : Nat} (hi : i < n) (hk : k < m) (hs : (S k).2.1 = 2) (hc : (C i).1 = (S k).2.2.2.1) (ha : (C i).2.2.2 = (S k).1) (st : Int) (hst : st = 1 ∨ st = 4) (h0 : 0 ≤ now) :
    VF n (fun j => if j = i then ((C i).1, ((C i).2.1, ((C i).2.2.1, 0))) else C j) m (fun j => if j = k then ((S k).1, (st, (now, (0, (S k).2.2.2.2)))) else S j) now := by
  have hid := h.se k hk
  constructor
  · intro j hj; have := h.ca j hj; have := h.ca i hi; grind
  · intro a b hab hb; have := h.cd a b hab hb; grind
  · intro j hj; have := h.se j hj; grind
  · intro a b hab hb; have := h.sd a b hab hb; grind
  · intro j hj; have := h.f0 j hj; grind
  · intro j hj; have := h.f1 j hj; grind
  · intro j hj hne
    by_cases e : j = i
    · subst e; simp at hne
    · simp only [if_neg e] at hne ⊢
      obtain ⟨q, q1, q2, q3, q4⟩ := h.l1 j hj hne
      have hq : q ≠ k := by
        rintro rfl
        exact e (h.cinj hj hi (by rw [← q4, hc]))
      exact ⟨q, q1, by simp only [if_neg hq]; exact ⟨q2, q3, q4⟩⟩
  · intro j hj hst'
    by_cases e : j = k
    · subst e; simp at hst'; omega
    · simp only [if_neg e] at hst' ⊢
      obtain ⟨q, q1, q2, q3⟩ := h.l2 j hj hst'
      have hq : q ≠ i := by
        rintro rfl
        exact e (h.sinj hj hk (by rw [← q3, ha]))
      exact ⟨q, q1, by simp only [if_neg hq]; exact ⟨q2, q3⟩⟩
  · intro j hj hst q hq
    have := h.b1 j hj
    have := h.ca
    grind
  · intro a b hab hb
    have := h.b2 a b hab hb
    grind
theorem VF.rest (h : VF n C m S now) {k : Nat} (hk : k < m) (hs : (S k).2.1 ≠ 2) (st : Int) (hst : st = 1 ∨ st = 4) (h0 : 0 ≤ now) :
    VF n C m (fun j => if j = k then ((S k).1, (st, (now, (0, (S k).2.2.2.2)))) else S j) now := by
  have hid := h.se k hk
  constructor
  · exact h.ca
  · exact h.cd
  · intro j hj; have := h.se j hj; grind
  · intro a b hab hb; have := h.sd a b hab hb; grind
  · intro j hj; have := h.f0 j hj; grind
  · intro j hj; have := h.f1 j hj; grind
  · intro j hj hne
    obtain ⟨q, q1, q2, q3, q4⟩ := h.l1 j hj hne
    have hq : q ≠ k := by rintro rfl; omega
    exact ⟨q, q1, by simp only [if_neg hq]; exact ⟨q2, q3, q4⟩⟩
  · intro j hj hst'
    by_cases e : j = k
    · subst e; simp at hst'; omega
    · simp only [if_neg e] at hst' ⊢
      exact h.l2 j hj hst'
  · intro j hj hst q hq
    have := h.b1 j hj
    grind
  · intro a b hab hb
    have := h.b2 a b hab hb
    grind
theorem VF.gone (h : VF n C m S now) {i : Nat} (hi : i < n) (ha : (C i).2.2.2 = 0) : VF (n - 1) (fun j => if j < i then C j else C (j + 1)) m S now := by
  constructor
  · intro j hj; split
    · exact h.ca j (by omega)
    · exact h.ca (j + 1) (by omega)
  · intro a b hab hb
    have h1 := h.cd a b hab
    have h2 := h.cd (a + 1) (b + 1) (by omega) (by omega)
    have h3 := h.cd a (b + 1) (by omega) (by omega)
    grind
  · exact h.se
  · exact h.sd
  · exact h.f0
  · exact h.f1
  · intro j hj hne
    split at hne
    · rename_i e; simp only [if_pos e]; exact h.l1 j (by omega) hne
    · rename_i e; simp only [if_neg e]; exact h.l1 (j + 1) (by omega) hne
  · intro k hk hst
    obtain ⟨q, q1, q2, q3⟩ := h.l2 k hk hst
    have := h.se k hk
    have hq : q ≠ i := by rintro rfl; omega
    by_cases e : q < i
    · exact ⟨q, by omega, by simp only [if_pos e]; exact ⟨q2, q3⟩⟩
    · refine ⟨q - 1, by omega, ?_⟩
      simp only [if_neg (show ¬ q - 1 < i from by omega), show q - 1 + 1 = q from by omega]
      exact ⟨q2, q3⟩
  · intro k hk hst j hj
    split
    · exact h.b1 k hk hst j (by omega)
    · exact h.b1 k hk hst (j + 1) (by omega)
  · exact h.b2
theorem VF.comes (h : VF n C m S now) {c : Ca} (h1 : 1 ≤ c.1 ∧ c.1 ≤ 2147483647 ∧ 0 ≤ c.2.1 ∧ c.2.1 ≤ 10) (h2 : c.2.2.1 = now) (h3 : c.2.2.2 = 0) (h0 : 0 ≤ now) (hn : ∀ i, i < n → (C i).1 ≠ c.1) (hb : ∀ k, k < m → (S k).2.1 = 3 → (S k).2.2.2.1 ≠ c.1) (f : Nat → Ca) (hf : ∀ j, j < n + 1 → f j = if j < n then C j else c) : VF (n + 1) f m S now := by
  have hl : ∀ j, j < n → f j = C j := fun j hj => by rw [hf j (by omega), if_pos hj]
  have hr : f n = c := by rw [hf n (by omega), if_neg (by omega)]
  have hc : ∀ j, j < n + 1 → j < n ∨ j = n := fun j hj => by omega
  constructor
  · intro j hj
    rcases hc j hj with e | e
    · rw [hl j e]; exact h.ca j e
    · subst e; rw [hr]; omega
  · intro a b hab hb
    rcases hc b hb with e | e
    · rw [hl a (by omega), hl b e]; exact h.cd a b hab e
    · subst e; rw [hr, hl a (by omega)]
      have := h.ca a (by omega)
      exact ⟨hn a (by omega), by omega⟩
  · exact h.se
  · exact h.sd
  · exact h.f0
  · exact h.f1
  · intro j hj hne
    rcases hc j hj with e | e
    · rw [hl j e] at hne ⊢; exact h.l1 j e hne
    · subst e; rw [hr] at hne; exact absurd h3 hne
  · intro k hk hst
    obtain ⟨q, q1, q2, q3⟩ := h.l2 k hk hst
    exact ⟨q, by omega, by rw [hl q q1]; exact ⟨q2, q3⟩⟩
  · intro k hk hst j hj
    rcases hc j hj with e | e
    · rw [hl j e]; exact h.b1 k hk hst j e
    · subst e; rw [hr]; exact fun q => hb k hk hst q.symm
  · exact h.b2
theorem VF.login (h : VF n C m S now) {s : Se} {p : Nat} (hp : p ≤ m) (h1 : 1 ≤ s.1 ∧ s.1 ≤ 2147483647) (h2 : s.2 = (1, (now, (0, 0)))) (h0 : 0 ≤ now) (hl : ∀ k, k < p → (S k).1 < s.1) (hr : ∀ k, p ≤ k → k < m → s.1 < (S k).1) (f : Nat → Se) (hf : ∀ j, j < m + 1 → f j = if j < p then S j else if j = p then s else S (j - 1)) : VF n C (m + 1) f now := by
  have hc : ∀ j, j < m + 1 → (j < p ∧ f j = S j) ∨ (j = p ∧ f j = s) ∨ (p < j ∧ f j = S (j - 1)) := by
    intro j hj
    rw [hf j hj]
    by_cases e : j < p
    · exact .inl ⟨e, by rw [if_pos e]⟩
    · by_cases e2 : j = p
      · exact .inr (.inl ⟨e2, by rw [if_neg e, if_pos e2]⟩)
      · exact .inr (.inr ⟨by omega, by rw [if_neg e, if_neg e2]⟩)
  obtain ⟨s1, s2⟩ := s
  simp only at h1 h2 hl hr
  subst h2
  constructor
  · exact h.ca
  · exact h.cd
  · intro j hj
    rcases hc j hj with ⟨e, e2⟩ | ⟨e, e2⟩ | ⟨e, e2⟩
    · rw [e2]; exact h.se j (by omega)
    · rw [e2]; simp only; omega
    · rw [e2]; exact h.se (j - 1) (by omega)
  · intro a b hab hb
    rcases hc a (by omega) with ⟨e, e2⟩ | ⟨e, e2⟩ | ⟨e, e2⟩ <;> rcases hc b hb with ⟨g, g2⟩ | ⟨g, g2⟩ | ⟨g, g2⟩ <;> rw [e2, g2] <;> first
      | exact h.sd _ _ (by omega) (by omega)
      | exact hl _ (by omega)
      | exact hr _ (by omega) (by omega)
      | (have h1 := hl a (by omega); have h2 := hr (b - 1) (by omega) (by omega); omega)
      | omega
  · intro j hj
    rcases hc j hj with ⟨e, e2⟩ | ⟨e, e2⟩ | ⟨e, e2⟩
    · rw [e2]; exact h.f0 j (by omega)
    · rw [e2]; simp
    · rw [e2]; exact h.f0 (j - 1) (by omega)
  · intro j hj
    rcases hc j hj with ⟨e, e2⟩ | ⟨e, e2⟩ | ⟨e, e2⟩
    · rw [e2]; exact h.f1 j (by omega)
    · rw [e2]; simp
    · rw [e2]; exact h.f1 (j - 1) (by omega)
  · intro i hi hne
    obtain ⟨q, q1, q2⟩ := h.l1 i hi hne
    by_cases e : q < p
    · exact ⟨q, by omega, by rw [hf q (by omega), if_pos e]; exact q2⟩
    · exact ⟨q + 1, by omega, by rw [hf (q + 1) (by omega), if_neg (by omega), if_neg (by omega), Nat.add_sub_cancel]; exact q2⟩
  · intro j hj
    rcases hc j hj with ⟨e, e2⟩ | ⟨e, e2⟩ | ⟨e, e2⟩
    · rw [e2]; exact h.l2 j (by omega)
    · rw [e2]; simp
    · rw [e2]; exact h.l2 (j - 1) (by omega)
  · intro j hj
    rcases hc j hj with ⟨e, e2⟩ | ⟨e, e2⟩ | ⟨e, e2⟩
    · rw [e2]; exact h.b1 j (by omega)
    · rw [e2]; simp
    · rw [e2]; exact h.b1 (j - 1) (by omega)
  · intro a b hab hb
    rcases hc a (by omega) with ⟨e, e2⟩ | ⟨e, e2⟩ | ⟨e, e2⟩ <;> rcases hc b hb with ⟨g, g2⟩ | ⟨g, g2⟩ | ⟨g, g2⟩ <;> rw [e2, g2] <;> first
      | exact h.b2 _ _ (by omega) (by omega)
      | (simp; done)
      | omega
theorem VF.later (h : VF n C m S now) {t : Int} (ht : now ≤ t) : VF n C m S t :=
  { h with ca := fun i hi => by have := h.ca i hi; omega, se := fun k hk => by have := h.se k hk; omega }
theorem VF.congr (h : VF n C m S now) {n' m' : Nat} {C' : Nat → Ca} {S' : Nat → Se} (hn : n' = n) (hm : m' = m) (hC : ∀ i, i < n → C' i = C i) (hS : ∀ i, i < m → S' i = S i) : VF n' C' m' S' now := by
  subst hn hm
  constructor
  · intro i hi; rw [hC i hi]; exact h.ca i hi
  · intro i j hij hj; rw [hC i (by omega), hC j hj]; exact h.cd i j hij hj
  · intro i hi; rw [hS i hi]; exact h.se i hi
  · intro i j hij hj; rw [hS i (by omega), hS j hj]; exact h.sd i j hij hj
  · intro i hi; rw [hS i hi]; exact h.f0 i hi
  · intro i hi; rw [hS i hi]; exact h.f1 i hi
  · intro i hi; rw [hC i hi]; intro hne
    obtain ⟨q, q1, q2⟩ := h.l1 i hi hne
    exact ⟨q, q1, by rw [hS q q1]; exact q2⟩
  · intro i hi; rw [hS i hi]; intro hne
    obtain ⟨q, q1, q2⟩ := h.l2 i hi hne
    exact ⟨q, q1, by rw [hC q q1]; exact q2⟩
  · intro k hk; rw [hS k hk]; intro hst i hi; rw [hC i hi]; exact h.b1 k hk hst i hi
  · intro i j hij hj; rw [hS i (by omega), hS j hj]; exact h.b2 i j hij hj
end
def VQ (cs : List Ca) (ss : List Se) (now : Int) : Prop := VF cs.length (fun i => cs.getD i dC) ss.length (fun i => ss.getD i dS) now
def setC (cs : List Ca) (i : Nat) (a : Int) : List Ca := cs.set i ((cs.getD i dC).1, ((cs.getD i dC).2.1, ((cs.getD i dC).2.2.1, a)))
def setS (ss : List Se) (k : Nat) (st now call : Int) : List Se := ss.set k ((ss.getD k dS).1, (st, (now, (call, (ss.getD k dS).2.2.2.2))))
theorem setC_len (cs : List Ca) (i : Nat) (a : Int) : (setC cs i a).length = cs.length := List.length_set
theorem setS_len (ss : List Se) (k : Nat) (st now call : Int) : (setS ss k st now call).length = ss.length := List.length_set
theorem setC_getD (cs : List Ca) (i : Nat) (a : Int) (h : i < cs.length) (k : Nat) : (setC cs i a).getD k dC = if k = i then ((cs.getD i dC).1, ((cs.getD i dC).2.1, ((cs.getD i dC).2.2.1, a))) else cs.getD k dC := getD_set' _ _ _ _ _ h
theorem setS_getD (ss : List Se) (i : Nat) (st now call : Int) (h : i < ss.length) (k : Nat) : (setS ss i st now call).getD k dS = if k = i then ((ss.getD i dS).1, (st, (now, (call, (ss.getD i dS).2.2.2.2)))) else ss.getD k dS := getD_set' _ _ _ _ _ h
section
variable {cs : List Ca} {ss : List Se} {now : Int}
theorem VQ.match (h : VQ cs ss now) {i k : Nat} (hi : i < cs.length) (hk : k < ss.length) (ha : (cs.getD i dC).2.2.2 = 0) (hs : (ss.getD k dS).2.1 = 1) (h0 : 0 ≤ now) :
    VQ (setC cs i (ss.getD k dS).1) (setS ss k 2 now (cs.getD i dC).1) now :=
  (VF.match h hi hk ha hs h0).congr (setC_len ..) (setS_len ..) (fun j hj => setC_getD cs i _ hi j) (fun j hj => setS_getD ss k _ _ _ hk j)
theorem VQ.silence (h : VQ cs ss now) {i k : Nat} (hi : i < cs.length) (hk : k < ss.length) (hs : (ss.getD k dS).2.1 = 2) (hc : (cs.getD i dC).1 = (ss.getD k dS).2.2.2.1) (ha : (cs.getD i dC).2.2.2 = (ss.getD k dS).1) (st : Int) (hst : st = 1 ∨ st = 4) (h0 : 0 ≤ now) :
    VQ (setC cs i 0) (setS ss k st now 0) now :=
  (VF.silence h hi hk hs hc ha st hst h0).congr (setC_len ..) (setS_len ..) (fun j hj => setC_getD cs i _ hi j) (fun j hj => setS_getD ss k _ _ _ hk j)
theorem VQ.rest (h : VQ cs ss now) {k : Nat} (hk : k < ss.length) (hs : (ss.getD k dS).2.1 ≠ 2) (st : Int) (hst : st = 1 ∨ st = 4) (h0 : 0 ≤ now) : VQ cs (setS ss k st now 0) now :=
  (VF.rest h hk hs st hst h0).congr rfl (setS_len ..) (fun j hj => rfl) (fun j hj => setS_getD ss k _ _ _ hk j)
theorem erase_len {α : Type} (l : List α) {i : Nat} (h : i < l.length) : (l.take i ++ l.drop (i + 1)).length = l.length - 1 := by
  rw [List.length_append, List.length_take, List.length_drop]; omega
theorem VQ.gone (h : VQ cs ss now) {i : Nat} (hi : i < cs.length) (ha : (cs.getD i dC).2.2.2 = 0) : VQ (cs.take i ++ cs.drop (i + 1)) ss now :=
  (VF.gone h hi ha).congr (erase_len cs hi) rfl (fun j hj => by show List.getD _ _ _ = _; rw [getD_erase, if_pos hi]) (fun j hj => rfl)
theorem VQ.comes (h : VQ cs ss now) {c : Ca} (h1 : 1 ≤ c.1 ∧ c.1 ≤ 2147483647 ∧ 0 ≤ c.2.1 ∧ c.2.1 ≤ 10) (h2 : c.2.2.1 = now) (h3 : c.2.2.2 = 0) (h0 : 0 ≤ now) (hn : ∀ i, i < cs.length → (cs.getD i dC).1 ≠ c.1) (hb : ∀ k, k < ss.length → (ss.getD k dS).2.1 = 3 → (ss.getD k dS).2.2.2.1 ≠ c.1) : VQ (cs ++ [c]) ss now := by
  have := VF.comes h h1 h2 h3 h0 hn hb (fun i => (cs ++ [c]).getD i dC) (fun j hj => by
    show List.getD _ _ _ = _
    rw [getD_snoc]
    by_cases e : j < cs.length
    · simp only [if_pos e]
    · rw [if_neg e, if_neg e, if_pos (by omega)])
  unfold VQ
  rwa [List.length_append, List.length_singleton]
theorem ins_getD {α : Type} (l : List α) (p k : Nat) (x d : α) (hp : p ≤ l.length) : (l.take p ++ x :: l.drop p).getD k d = if k < p then l.getD k d else if k = p then x else l.getD (k - 1) d := by
  rw [List.getD_eq_getElem?_getD, List.getElem?_append, List.length_take, Nat.min_eq_left hp]
  by_cases h : k < p
  · rw [if_pos h, if_pos h, List.getElem?_take, if_pos h, List.getD_eq_getElem?_getD]
  · rw [if_neg h, if_neg h]
    by_cases e : k = p
    · subst e; rw [if_pos rfl, Nat.sub_self]; rfl
    · rw [if_neg e, show k - p = (k - 1 - p) + 1 from by omega, List.getElem?_cons_succ, List.getElem?_drop, List.getD_eq_getElem?_getD, show p + (k - 1 - p) = k - 1 from by omega]
theorem VQ.login (h : VQ cs ss now) {s : Se} {p : Nat} (hp : p ≤ ss.length) (h1 : 1 ≤ s.1 ∧ s.1 ≤ 2147483647) (h2 : s.2 = (1, (now, (0, 0)))) (h0 : 0 ≤ now) (hl : ∀ k, k < p → (ss.getD k dS).1 < s.1) (hr : ∀ k, p ≤ k → k < ss.length → s.1 < (ss.getD k dS).1) : VQ cs (ss.take p ++ s :: ss.drop p) now := by
  have := VF.login h hp h1 h2 h0 hl hr (fun i => (ss.take p ++ s :: ss.drop p).getD i dS) (fun j hj => ins_getD ss p j s dS hp)
  unfold VQ
  rwa [show (ss.take p ++ s :: ss.drop p).length = ss.length + 1 from by rw [List.length_append, List.length_take, List.length_cons, List.length_drop]; omega]
theorem VQ.later (h : VQ cs ss now) {t : Int} (ht : now ≤ t) : VQ cs ss t := VF.later h ht
end
end Go.Proofs.Ytkmfgldoljegoaa
