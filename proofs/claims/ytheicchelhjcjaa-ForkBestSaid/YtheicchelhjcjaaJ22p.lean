import Derived.Test.YtheicchelhjcjaaJ21p
set_option linter.unusedVariables false
set_option linter.unusedSimpArgs false
set_option maxRecDepth 100000
namespace Go.Proofs.Ytheicchelhjcjaa
open Go.RowKit
def cN (A : List Ac) (k i : Int) : Nat := A.countP fun x => decide (x.1 = k ∧ x.2.1 = i)
def aL (A : List Ac) (k : Int) : Nat := A.countP fun x => decide (x.1 = k)
def rn (tk : List In) (i : Int) : Nat := tk.countP fun x => decide (x.1 = 1 ∧ x.2.1 = i)
def ovn (tk : List In) : Nat := tk.countP fun x => decide (x.1 = 4 ∨ (x.1 = 2 ∧ x.2.2 ≥ 600))
theorem cN_app (A B : List Ac) (k i : Int) : cN (A ++ B) k i = cN A k i + cN B k i := List.countP_append
theorem aL_app (A B : List Ac) (k : Int) : aL (A ++ B) k = aL A k + aL B k := List.countP_append
theorem rn_app (A B : List In) (i : Int) : rn (A ++ B) i = rn A i + rn B i := List.countP_append
theorem ovn_app (A B : List In) : ovn (A ++ B) = ovn A + ovn B := List.countP_append
theorem cN_cons (x : Ac) (A : List Ac) (k i : Int) : cN (x :: A) k i = cN A k i + if x.1 = k ∧ x.2.1 = i then 1 else 0 := by
  unfold cN; rw [List.countP_cons]; simp only [decide_eq_true_eq]
theorem aL_cons (x : Ac) (A : List Ac) (k : Int) : aL (x :: A) k = aL A k + if x.1 = k then 1 else 0 := by
  unfold aL; rw [List.countP_cons]; simp only [decide_eq_true_eq]
theorem rn_one (x : In) (i : Int) : rn [x] i = if x.1 = 1 ∧ x.2.1 = i then 1 else 0 := by
  unfold rn; rw [List.countP_cons]; simp only [decide_eq_true_eq, List.countP_nil, Nat.zero_add]
theorem ovn_one (x : In) : ovn [x] = if x.1 = 4 ∨ (x.1 = 2 ∧ x.2.2 ≥ 600) then 1 else 0 := by
  unfold ovn; rw [List.countP_cons]; simp only [decide_eq_true_eq, List.countP_nil, Nat.zero_add]
theorem cN_ne {A : List Ac} {k k' i j c : Int} (h : k' ≠ k) : cN ((k', (i, c)) :: A) k j = cN A k j := by rw [cN_cons, if_neg (fun g => h g.1)]; rfl
theorem cN_nj {A : List Ac} {k k' i j c : Int} (h : i ≠ j) : cN ((k', (i, c)) :: A) k j = cN A k j := by rw [cN_cons, if_neg (fun g => h g.2)]; rfl
theorem cN_eq {A : List Ac} {k i c : Int} : cN ((k, (i, c)) :: A) k i = cN A k i + 1 := by rw [cN_cons, if_pos ⟨rfl, rfl⟩]
theorem aL_ne {A : List Ac} {k k' : Int} {c : Int × Int} (h : k' ≠ k) : aL ((k', c) :: A) k = aL A k := by rw [aL_cons, if_neg h]; rfl
theorem aL_eq {A : List Ac} {k : Int} {c : Int × Int} : aL ((k, c) :: A) k = aL A k + 1 := by rw [aL_cons, if_pos rfl]
theorem cN_nil (k i : Int) : cN [] k i = 0 := rfl
theorem aL_nil (k : Int) : aL [] k = 0 := rfl
theorem ac_other {p : Br → Bool} {kind k i : Int} {l : List Br} (h : kind ≠ k) : ∀ n : Nat, cN (ac p kind l n) k i = 0 ∧ aL (ac p kind l n) k = 0
  | 0 => ⟨rfl, rfl⟩
  | n + 1 => by
    obtain ⟨e1, e2⟩ := ac_other (p := p) (i := i) (l := l) h n
    rw [ac_succ, cN_app, aL_app, e1, e2]
    split
    · rw [cN_cons, aL_cons, cN_nil, aL_nil, if_neg (fun g => h g.1), if_neg h]; exact ⟨rfl, rfl⟩
    · exact ⟨rfl, rfl⟩
theorem cN_rg {l : List Br} {i : Nat} : ∀ n : Nat, (i < n → (l.getD i d0).2.2.1 = 2 → cN (ac pRg 2 l n) 2 (i : Int) = 1) ∧ (¬ (i < n ∧ (l.getD i d0).2.2.1 = 2) → cN (ac pRg 2 l n) 2 (i : Int) = 0)
  | 0 => ⟨fun h => by omega, fun _ => rfl⟩
  | n + 1 => by
    obtain ⟨e1, e2⟩ := cN_rg (l := l) (i := i) n
    rw [ac_succ, cN_app]
    by_cases hp : pRg (l.getD n d0) = true
    · have hp2 : (l.getD n d0).2.2.1 = 2 := of_decide_eq_true hp
      rw [if_pos hp, cN_cons, cN_nil]
      by_cases e : n = i
      · subst e
        rw [if_pos (show (2 : Int) = 2 ∧ (n : Int) = (n : Int) from ⟨rfl, rfl⟩), e2 (by omega)]
        exact ⟨fun _ _ => rfl, fun g => (g ⟨by omega, hp2⟩).elim⟩
      · rw [if_neg (show ¬ ((2 : Int) = 2 ∧ (n : Int) = (i : Int)) by omega)]
        refine ⟨fun g1 g2 => by rw [e1 (by omega) g2], fun g => by rw [e2 (fun k => g ⟨by omega, k.2⟩)]⟩
    · have hp2 : (l.getD n d0).2.2.1 ≠ 2 := fun k => hp (decide_eq_true k)
      rw [if_neg hp, cN_nil]
      by_cases e : n = i
      · subst e
        exact ⟨fun _ g => (hp2 g).elim, fun _ => by rw [e2 (by omega)]⟩
      · refine ⟨fun g1 g2 => by rw [e1 (by omega) g2], fun g => by rw [e2 (fun k => g ⟨by omega, k.2⟩)]⟩
def BI (s c a2 i : Int) (n4 n5 n2 r w : Nat) : Prop :=
  (s = 5 → c < 300 → n4 + n5 = 1) ∧ (s ≠ 5 → n4 + n5 = 0) ∧ (300 ≤ c → n4 + n5 = 0) ∧ (n4 = 1 ↔ a2 = i) ∧ (s = 4 → n2 = 1 ∧ 0 < r) ∧ (s = 2 → n2 = 0 ∧ 0 < r) ∧ (s ≠ 2 → s ≠ 4 → s ≠ 5 → n2 = 0 ∧ r = 0) ∧ n2 ≤ 1 ∧ (n2 = 1 → 0 < r ∧ w = 1)
section
variable {s s' c c' a2 i : Int} {n4 n5 n2 r w : Nat}
theorem BI.mono (h : BI s c a2 i n4 n5 n2 r w) {w' : Nat} (hw : w = 1 → w' = 1) : BI s c a2 i n4 n5 n2 r w' := by unfold BI at h ⊢; omega
theorem BI.stop (h : BI s c a2 i n4 n5 n2 r w) {d : Nat} (hs : (s = 2 ∧ s' = 4 ∧ d = 1) ∨ (s = 1 ∧ s' = 3 ∧ d = 0) ∨ (s ≠ 1 ∧ s ≠ 2 ∧ s' = s ∧ d = 0)) : BI s' c a2 i n4 n5 (n2 + d) r 1 := by
  unfold BI at h ⊢
  rcases hs with ⟨k1, k2, k3⟩ | ⟨k1, k2, k3⟩ | ⟨k1, k2, k3, k4⟩
  · subst k1 k2 k3; omega
  · subst k1 k2 k3; omega
  · subst k3 k4; omega
theorem BI.skip (h : BI s c a2 i n4 n5 n2 r w) (hs : (s = 0 ∧ s' = 6) ∨ (s ≠ 0 ∧ s' = s)) : BI s' c a2 i n4 n5 n2 r w := by
  unfold BI at h ⊢
  rcases hs with ⟨k1, k2⟩ | ⟨k1, k2⟩ <;> subst k2 <;> omega
theorem BI.send (h : BI s c a2 i n4 n5 n2 r w) (hs : (s = 0 ∧ s' = 1) ∨ s' = s) : BI s' c a2 i n4 n5 n2 r w := by
  unfold BI at h ⊢
  rcases hs with ⟨k1, k2⟩ | k2 <;> subst k2 <;> omega
theorem BI.setw (h : BI s c a2 i n4 n5 n2 r w) {a2' : Int} (h0 : a2 < 0) (hi : 0 ≤ i) (h1 : a2' ≠ i) : BI s c a2' i n4 n5 n2 r w := by unfold BI at h ⊢; omega
theorem BI.win (h : BI s c a2 i n4 n5 n2 r w) (h0 : a2 < 0) (hi : 0 ≤ i) (hs : 1 ≤ s ∧ s ≤ 4) (hc : c' < 300) : BI 5 c' i i (n4 + 1) n5 n2 r 1 := by unfold BI at h ⊢; omega
theorem BI.rel (h : BI s c a2 i n4 n5 n2 r w) (h0 : a2 ≠ i) (hs : 1 ≤ s ∧ s ≤ 4) (hc : c' < 300) : BI 5 c' a2 i n4 (n5 + 1) n2 r w := by unfold BI at h ⊢; omega
theorem BI.fin (h : BI s c a2 i n4 n5 n2 r w) (h0 : a2 ≠ i) (hs : 1 ≤ s ∧ s ≤ 4) (hc : 300 ≤ c') : BI 5 c' a2 i n4 n5 n2 r w := by unfold BI at h ⊢; omega
theorem BI.ring (h : BI s c a2 i n4 n5 n2 r w) (hs : s = 1 ∨ s = 2) : BI 2 c a2 i n4 n5 n2 (r + 1) w := by unfold BI at h ⊢; omega
theorem BI.ring4 (h : BI s c a2 i n4 n5 n2 r w) (hs : s = 4) : BI 4 c a2 i n4 n5 n2 (r + 1) w := by unfold BI at h ⊢; omega
theorem BI.pend (h : BI s c a2 i n4 n5 n2 r w) (hs : s = 3) (hw : w = 1) : BI 4 c a2 i n4 n5 (n2 + 1) (r + 1) w := by unfold BI at h ⊢; omega
end
def b1 (b : Bool) : Nat := if b = true then 1 else 0
theorem b1_t : b1 true = 1 := rfl
theorem b1_f : b1 false = 0 := rfl
abbrev Fin5 (l : List Br) : Prop := ∃ j, j < l.length ∧ (l.getD j d0).2.2.1 = 5
abbrev Fin6 (l : List Br) : Prop := ∃ j, j < l.length ∧ (l.getD j d0).2.2.1 = 5 ∧ (l.getD j d0).2.2.2 ≥ 600
structure INV (l : List Br) (a2 : Int) (a3 a4 a5 : Bool) (A : List Ac) (tk : List In) : Prop where
  br : ∀ i : Nat, i < l.length → BI (l.getD i d0).2.2.1 (l.getD i d0).2.2.2 a2 i (cN A 4 i) (cN A 5 i) (cN A 2 i) (rn tk i) (b1 a4)
  fa : aL A 4 + aL A 6 = b1 a5
  ov : a4 = true ↔ 0 < ovn tk + aL A 4
  cl : a4 = true → a3 = true ∨ 0 ≤ a2 ∨ Fin6 l
  fl : ∀ x ∈ A, x.1 = 6 → a5 = true ∧ a2 < 0 ∧ x.2.2 = BV l a3 ∧ (a3 = true ∨ l = [] ∨ Fin5 l)
theorem fin6_map {f : Br → Br} {l : List Br} (h : Fin6 l) (hf : ∀ x : Br, x.2.2.1 = 5 → (f x).2.2.1 = 5 ∧ (f x).2.2.2 = x.2.2.2) : Fin6 (l.map f) := by
  obtain ⟨j, hj, h5, h6⟩ := h
  obtain ⟨g1, g2⟩ := hf _ h5
  refine ⟨j, by rw [List.length_map]; exact hj, ?_, ?_⟩
  · rw [getD_map hj]; exact g1
  · rw [getD_map hj, g2]; exact h6
theorem fsk5 (x : Br) (h : x.2.2.1 = 5) : (fsk x).2.2.1 = 5 ∧ (fsk x).2.2.2 = x.2.2.2 := by
  obtain ⟨_, _, h3, h4⟩ := fsk_fac x
  exact ⟨by omega, h3⟩
theorem fst5 (x : Br) (h : x.2.2.1 = 5) : (fst1 x).2.2.1 = 5 ∧ (fst1 x).2.2.2 = x.2.2.2 := by
  obtain ⟨_, _, h3, h4⟩ := fst1_fac x
  exact ⟨by omega, h3⟩
theorem fsn5 (q : Int) (x : Br) (h : x.2.2.1 = 5) : (fsn q x).2.2.1 = 5 ∧ (fsn q x).2.2.2 = x.2.2.2 := by
  obtain ⟨_, _, h3, h4⟩ := fsn_fac q x
  exact ⟨by omega, h3⟩
theorem fs_len' (l : List Br) (i : Nat) (c : Int) : (fs l i c).length = l.length := by unfold fs; rw [List.length_set]
theorem fail_cN {k i v : Int} (h : (6 : Int) ≠ k) : cN [(6, (-1, v))] k i = 0 := by rw [cN_cons, cN_nil, if_neg (fun g => h g.1)]
theorem fail_aL4 {v : Int} : aL [(6, (-1, v))] 4 = 0 := by rw [aL_cons, aL_nil, if_neg (by decide : ¬ (6 : Int) = 4)]
theorem fail_aL6 {v : Int} : aL [(6, (-1, v))] 6 = 1 := by rw [aL_cons, aL_nil, if_pos rfl]
theorem INV.go {l : List Br} {a2 : Int} {a3 a4 a5 : Bool} {A : List Ac} {tk : List In} (h : INV l a2 a3 a4 a5 A tk) (hv : VJ l a2 a3 a4 a5) (hN : NN l) : INV (GO l a3 a4 a5).1 a2 a3 a4 (GO l a3 a4 a5).2.1 (A ++ (GO l a3 a4 a5).2.2) tk := by
  unfold GO
  cases a5
  · rw [if_neg (by decide)]
    have hA6 : ∀ x ∈ A, x.1 ≠ 6 := fun x hx g => by have := (h.fl x hx g).1; cases this
    have h46 := h.fa
    have ha2 : a2 < 0 := by
      rcases Int.lt_or_le a2 0 with k | k
      · exact k
      · have := (hv.win k).2.2.1; cases this
    by_cases h1 : 0 ≤ fdx Op l
    · rw [if_pos h1, List.append_nil]; exact h
    · rw [if_neg h1]
      have hno := fdx_neg.1 (show fdx Op l < 0 by omega)
      by_cases h2 : a4 = true ∨ fdx Wa l < 0
      · rw [if_pos h2]
        refine ⟨fun i hi => ?_, ?_, ?_, fun g => ?_, fun x hx g => ?_⟩
        · rw [List.length_map] at hi
          have hb := h.br i hi
          rw [getD_map hi]
          obtain ⟨f1, f2, f3, f4⟩ := fsk_fac (l.getD i d0)
          rw [f3, cN_app, cN_app, cN_app, fail_cN (by decide), fail_cN (by decide), fail_cN (by decide)]
          exact hb.skip f4
        · rw [aL_app, aL_app, fail_aL4, fail_aL6]
          rw [b1_f] at h46
          rw [b1_t]; omega
        · rw [aL_app, fail_aL4]
          exact h.ov
        · rcases h.cl g with k | k | k
          · exact .inl k
          · exact .inr (.inl k)
          · exact .inr (.inr (fin6_map k fsk5))
        · rcases List.mem_append.1 hx with hx | hx
          · exact (hA6 x hx g).elim
          · rw [List.mem_singleton] at hx
            subst hx
            refine ⟨rfl, ha2, rfl, ?_⟩
            have main : a3 = true ∨ l = [] ∨ Fin5 l := by
              rcases h2 with h2 | h2
              · rcases h.cl h2 with k | k | ⟨j, hj, k, _⟩
                · exact .inl k
                · omega
                · exact .inr (.inr ⟨j, hj, k⟩)
              · have hnw := fdx_neg.1 h2
                cases l with
                | nil => exact .inr (.inl rfl)
                | cons y l' =>
                  refine .inr (.inr ⟨0, Nat.zero_lt_succ _, ?_⟩)
                  have hb := hv.br 0 (Nat.zero_lt_succ _)
                  have n6 : ((y :: l').getD 0 d0).2.2.1 ≠ 6 := fun g => by have := hb.2.2.k6 g; cases this
                  have nop : ¬ Op ((y :: l').getD 0 d0) := fun g => hno ⟨0, Nat.zero_lt_succ _, g⟩
                  have n0 : ((y :: l').getD 0 d0).2.2.1 ≠ 0 := fun g => hnw ⟨0, Nat.zero_lt_succ _, g⟩
                  have h6 := hb.1.s
                  have h0 := hN 0 (Nat.zero_lt_succ _)
                  unfold Op at nop
                  omega
            rcases main with k | k | ⟨j, hj, k⟩
            · exact .inl k
            · exact .inr (.inl (by rw [k]; rfl))
            · exact .inr (.inr ⟨j, by rw [List.length_map]; exact hj, by rw [getD_map hj]; exact (fsk5 _ k).1⟩)
      · rw [if_neg h2]
        generalize (l.getD (fdx Wa l).toNat d0).2.1 = Q
        refine ⟨fun i hi => ?_, ?_, ?_, fun g => ?_, fun x hx g => ?_⟩
        · rw [List.length_map] at hi
          have hb := h.br i hi
          rw [getD_map hi]
          obtain ⟨f1, f2, f3, f4⟩ := fsn_fac Q (l.getD i d0)
          rw [f3, cN_app, cN_app, cN_app, (ac_other (by decide) _).1, (ac_other (by decide) _).1, (ac_other (by decide) _).1]
          exact hb.send (by omega)
        · rw [aL_app, aL_app, (ac_other (i := 0) (by decide) _).2, (ac_other (i := 0) (by decide) _).2]
          exact h46
        · rw [aL_app, (ac_other (i := 0) (by decide) _).2]
          exact h.ov
        · rcases h.cl g with k | k | k
          · exact .inl k
          · exact .inr (.inl k)
          · exact .inr (.inr (fin6_map k (fsn5 Q)))
        · rcases List.mem_append.1 hx with hx | hx
          · exact (hA6 x hx g).elim
          · obtain ⟨j, _, e, _⟩ := ac_mem hx
            rw [e] at g
            cases g
  · rw [if_pos rfl, List.append_nil]; exact h
theorem INV.nof {l : List Br} {a2 : Int} {a3 a4 a5 : Bool} {A : List Ac} {tk : List In} (h : INV l a2 a3 a4 a5 A tk) (hv : VP l a2 a3 a4 a5) {i : Nat} (hi : i < l.length) (ho : Op (l.getD i d0)) : ∀ x ∈ A, x.1 ≠ 6 := fun x hx g => by
  obtain ⟨h1, h2, _⟩ := h.fl x hx g
  exact hv.dn h1 h2 ⟨i, hi, ho⟩
theorem stopF_j {l : List Br} {j n : Nat} (hn : j < n) : (((l.getD j d0).2.2.1 = 2 ∧ (fst1 (l.getD j d0)).2.2.1 = 4 ∧ cN (ac pRg 2 l n) 2 (j : Int) = 1) ∨ ((l.getD j d0).2.2.1 = 1 ∧ (fst1 (l.getD j d0)).2.2.1 = 3 ∧ cN (ac pRg 2 l n) 2 (j : Int) = 0) ∨ ((l.getD j d0).2.2.1 ≠ 1 ∧ (l.getD j d0).2.2.1 ≠ 2 ∧ (fst1 (l.getD j d0)).2.2.1 = (l.getD j d0).2.2.1 ∧ cN (ac pRg 2 l n) 2 (j : Int) = 0)) ∧ (fst1 (l.getD j d0)).2.2.2 = (l.getD j d0).2.2.2 := by
  obtain ⟨g1, g2, g3, g4⟩ := fst1_fac (l.getD j d0)
  obtain ⟨e1, e2⟩ := cN_rg (l := l) (i := j) n
  refine ⟨?_, g3⟩
  rcases g4 with ⟨k1, k2⟩ | ⟨k1, k2⟩ | ⟨k1, k2, k3⟩
  · exact .inl ⟨k1, k2, e1 hn k1⟩
  · exact .inr (.inl ⟨k1, k2, e2 (by omega)⟩)
  · exact .inr (.inr ⟨k1, k2, k3, e2 (by omega)⟩)
theorem rg4 {l : List Br} {n : Nat} {i : Int} : cN (ac pRg 2 l n) 4 i = 0 := (ac_other (by decide) n).1
theorem rg5 {l : List Br} {n : Nat} {i : Int} : cN (ac pRg 2 l n) 5 i = 0 := (ac_other (by decide) n).1
theorem rgA4 {l : List Br} {n : Nat} : aL (ac pRg 2 l n) 4 = 0 := (ac_other (i := 0) (by decide) n).2
theorem rgA6 {l : List Br} {n : Nat} : aL (ac pRg 2 l n) 6 = 0 := (ac_other (i := 0) (by decide) n).2
theorem rn_no {tk : List In} {k b c i : Int} (hk : k ≠ 1) : rn (tk ++ [(k, (b, c))]) i = rn tk i := by rw [rn_app, rn_one, if_neg (fun g => hk g.1)]; rfl
theorem rg_no6 {l : List Br} {n : Nat} {x : Ac} (hx : x ∈ ac pRg 2 l n) : x.1 ≠ 6 := fun g => by
  obtain ⟨j, _, e, _⟩ := ac_mem hx
  rw [e] at g; cases g
theorem INV.win {l : List Br} {a2 : Int} {a4 : Bool} {A : List Ac} {tk : List In} {i : Nat} {c k : Int} (h : INV l a2 false a4 false A tk) (hv : VP l a2 false a4 false) (hi : i < l.length) (ho : Op (l.getD i d0)) (hc : c < 300) (hk : k ≠ 1) (b' c' : Int) :
    INV (((fs l i c).map fst1).map fsk) (i : Int) false true true (A ++ (4, ((i : Int), c)) :: ac pRg 2 (fs l i c) l.length) (tk ++ [(k, (b', c'))]) := by
  have ha2 : a2 < 0 := by
    rcases Int.lt_or_le a2 0 with k | k
    · exact k
    · have := (hv.win k).2.2.1; cases this
  have h46 := h.fa
  have hfl := fs_len' l i c
  refine ⟨fun j hj => ?_, ?_, ?_, fun _ => .inr (.inl (by omega)), fun x hx g => ?_⟩
  · rw [List.length_map, List.length_map, hfl] at hj
    have hb := h.br j hj
    have e1 : (((fs l i c).map fst1).map fsk).getD j d0 = fsk (fst1 ((fs l i c).getD j d0)) := by
      rw [getD_map (by rw [List.length_map, hfl]; exact hj), getD_map (by rw [hfl]; exact hj)]
    obtain ⟨f1, f2, f3, f4⟩ := fsk_fac (fst1 ((fs l i c).getD j d0))
    obtain ⟨g4, g3⟩ := stopF_j (l := fs l i c) hj
    obtain ⟨s1, s2, s3⟩ := fs_fac (i := i) (c := c) hj
    rw [e1, f3, g3, rn_no hk, cN_app, cN_app, cN_app, cN_ne (A := ac pRg 2 (fs l i c) l.length) (k := 5) (by decide), cN_ne (A := ac pRg 2 (fs l i c) l.length) (k := 2) (by decide), rg5]
    rcases s3 with ⟨e, s5, sc⟩ | ⟨sn, s5, sc⟩
    · subst e
      have hb' := hb.win (c' := c) ha2 (by omega) ho hc
      rw [s5] at g4
      rw [sc, cN_eq, rg4]
      exact (hb'.stop g4).skip f4
    · have hb' := (hb.setw (a2' := (i : Int)) ha2 (by omega) (by omega)).mono (w' := 1) (fun _ => rfl)
      rw [s5] at g4
      rw [sc, cN_nj (by omega), rg4]
      exact (hb'.stop g4).skip f4
  · rw [aL_app, aL_app, aL_eq, aL_ne (by decide), rgA4, rgA6]
    rw [b1_f] at h46
    rw [b1_t]; omega
  · refine ⟨fun _ => ?_, fun _ => rfl⟩
    rw [aL_app, aL_eq]; omega
  · rcases List.mem_append.1 hx with hx | hx
    · exact (h.nof hv hi ho x hx g).elim
    · rcases List.mem_cons.1 hx with hx | hx
      · rw [hx] at g; cases g
      · exact (rg_no6 hx g).elim
theorem win_ne {l : List Br} {a2 : Int} {a3 a4 a5 : Bool} (hv : VP l a2 a3 a4 a5) {i : Nat} (ho : Op (l.getD i d0)) : a2 ≠ (i : Int) := fun g => by
  have := (hv.win (by omega)).1
  rw [g, Int.toNat_natCast] at this
  unfold Op at ho; omega
theorem fin6_fs {l : List Br} {i : Nat} {c : Int} (hi : i < l.length) (ho : Op (l.getD i d0)) (h : Fin6 l) : Fin6 (fs l i c) := by
  obtain ⟨j, hj, h5, h6⟩ := h
  obtain ⟨s1, s2, s3⟩ := fs_fac (i := i) (c := c) hj
  refine ⟨j, by rw [fs_len']; exact hj, ?_⟩
  rcases s3 with ⟨e, s5, sc⟩ | ⟨sn, s5, sc⟩
  · subst e; unfold Op at ho; omega
  · rw [s5, sc]; exact ⟨h5, h6⟩
theorem INV.rel {l : List Br} {a2 : Int} {a3 a4 a5 : Bool} {A : List Ac} {tk : List In} {i : Nat} {c k : Int} (h : INV l a2 a3 a4 a5 A tk) (hv : VP l a2 a3 a4 a5) (hi : i < l.length) (ho : Op (l.getD i d0)) (hc : c < 300) (hk : k ≠ 1) {b' c' : Int} (hov : ovn [(k, (b', c'))] = 0) :
    INV (fs l i c) a2 a3 a4 a5 (A ++ [(5, ((i : Int), c))]) (tk ++ [(k, (b', c'))]) := by
  have hfl := fs_len' l i c
  refine ⟨fun j hj => ?_, ?_, ?_, fun g => ?_, fun x hx g => ?_⟩
  · rw [hfl] at hj
    have hb := h.br j hj
    obtain ⟨s1, s2, s3⟩ := fs_fac (i := i) (c := c) hj
    rw [rn_no hk, cN_app, cN_app, cN_app, cN_ne (A := []) (k := 4) (by decide), cN_ne (A := []) (k := 2) (by decide)]
    rcases s3 with ⟨e, s5, sc⟩ | ⟨sn, s5, sc⟩
    · subst e
      rw [s5, sc, cN_eq]
      exact hb.rel (win_ne hv ho) ho hc
    · rw [s5, sc, cN_nj (by omega)]
      exact hb
  · rw [aL_app, aL_app, aL_ne (by decide), aL_ne (by decide)]
    exact h.fa
  · rw [ovn_app, hov, aL_app, aL_ne (by decide)]
    exact h.ov
  · rcases h.cl g with k | k | k
    · exact .inl k
    · exact .inr (.inl k)
    · exact .inr (.inr (fin6_fs hi ho k))
  · rcases List.mem_append.1 hx with hx | hx
    · exact (h.nof hv hi ho x hx g).elim
    · rw [List.mem_singleton] at hx
      rw [hx] at g; cases g
theorem INV.fin {l : List Br} {a2 : Int} {a3 a4 a5 : Bool} {A : List Ac} {tk : List In} {i : Nat} {c k : Int} (h : INV l a2 a3 a4 a5 A tk) (hv : VP l a2 a3 a4 a5) (hi : i < l.length) (ho : Op (l.getD i d0)) (hc : 300 ≤ c) (hk : k ≠ 1) {b' c' : Int} (hov : ovn [(k, (b', c'))] = 0) :
    INV (fs l i c) a2 a3 a4 a5 A (tk ++ [(k, (b', c'))]) := by
  have hfl := fs_len' l i c
  refine ⟨fun j hj => ?_, h.fa, ?_, fun g => ?_, fun x hx g => (h.nof hv hi ho x hx g).elim⟩
  · rw [hfl] at hj
    have hb := h.br j hj
    obtain ⟨s1, s2, s3⟩ := fs_fac (i := i) (c := c) hj
    rw [rn_no hk]
    rcases s3 with ⟨e, s5, sc⟩ | ⟨sn, s5, sc⟩
    · subst e
      rw [s5, sc]
      exact hb.fin (win_ne hv ho) ho hc
    · rw [s5, sc]
      exact hb
  · rw [ovn_app, hov]
    exact h.ov
  · rcases h.cl g with k | k | k
    · exact .inl k
    · exact .inr (.inl k)
    · exact .inr (.inr (fin6_fs hi ho k))
theorem INV.all {l : List Br} {a2 : Int} {a3 a4 a5 : Bool} {A : List Ac} {tk : List In} {i : Nat} {c k : Int} (h : INV l a2 a3 a4 a5 A tk) (hv : VP l a2 a3 a4 a5) (hi : i < l.length) (ho : Op (l.getD i d0)) (hc : 600 ≤ c) (hk : k ≠ 1) {b' c' : Int} (hov : 0 < ovn [(k, (b', c'))]) :
    INV ((fs l i c).map fst1) a2 a3 true a5 (A ++ ac pRg 2 (fs l i c) l.length) (tk ++ [(k, (b', c'))]) := by
  have hfl := fs_len' l i c
  refine ⟨fun j hj => ?_, ?_, ?_, fun g => ?_, fun x hx g => ?_⟩
  · rw [List.length_map, hfl] at hj
    have hb := h.br j hj
    obtain ⟨g4, g3⟩ := stopF_j (l := fs l i c) hj
    obtain ⟨s1, s2, s3⟩ := fs_fac (i := i) (c := c) hj
    rw [getD_map (by rw [hfl]; exact hj), g3, rn_no hk, cN_app, cN_app, cN_app, rg4, rg5]
    rcases s3 with ⟨e, s5, sc⟩ | ⟨sn, s5, sc⟩
    · subst e
      rw [s5] at g4
      rw [sc]
      exact (hb.fin (c' := c) (win_ne hv ho) ho (by omega)).stop g4
    · rw [s5] at g4
      rw [sc]
      exact hb.stop g4
  · rw [aL_app, aL_app, rgA4, rgA6]
    exact h.fa
  · refine ⟨fun _ => ?_, fun _ => rfl⟩
    rw [ovn_app]; omega
  · refine .inr (.inr ⟨i, by rw [List.length_map, hfl]; exact hi, ?_⟩)
    obtain ⟨s1, s2, s3⟩ := fs_fac (i := i) (c := c) hi
    rcases s3 with ⟨e, s5, sc⟩ | ⟨sn, _, _⟩
    · obtain ⟨k1, k2⟩ := fst5 _ s5
      rw [getD_map (by rw [hfl]; exact hi)]
      exact ⟨k1, by rw [k2, sc]; exact hc⟩
    · exact (sn rfl).elim
  · rcases List.mem_append.1 hx with hx | hx
    · exact (h.nof hv hi ho x hx g).elim
    · exact (rg_no6 hx g).elim
theorem INV.can {l : List Br} {a2 : Int} {a4 : Bool} {A : List Ac} {tk : List In} (h : INV l a2 false a4 false A tk) (b' c' : Int) :
    INV (l.map fst1) a2 true true false (A ++ ac pRg 2 l l.length) (tk ++ [(4, (b', c'))]) := by
  refine ⟨fun j hj => ?_, ?_, ?_, fun g => .inl rfl, fun x hx g => ?_⟩
  · rw [List.length_map] at hj
    have hb := h.br j hj
    obtain ⟨g4, g3⟩ := stopF_j (l := l) hj
    rw [getD_map hj, g3, rn_no (by decide), cN_app, cN_app, cN_app, rg4, rg5]
    exact hb.stop g4
  · rw [aL_app, aL_app, rgA4, rgA6]
    exact h.fa
  · refine ⟨fun _ => ?_, fun _ => rfl⟩
    rw [ovn_app, ovn_one, if_pos (.inl rfl)]; omega
  · rcases List.mem_append.1 hx with hx | hx
    · have := (h.fl x hx g).1; cases this
    · exact (rg_no6 hx g).elim
end Go.Proofs.Ytheicchelhjcjaa
