import Derived.Test.YtheicchelhjcjaaJ18p
set_option linter.unusedVariables false
set_option linter.unusedSimpArgs false
set_option maxRecDepth 100000
namespace Go.Proofs.Ytheicchelhjcjaa
open Go.RowKit
abbrev a0 : Ac := (0, (0, 0))
theorem oq_j (a1 : List Tg) (F : List Br) (S : List Int) (x : Ac) (x30 : Int) {b : Nat} (hb : x.2.1 = (b : Int)) (hbF : b < F.length) (hF : F.length ≤ 1000) (hq : ∀ n, n < F.length → (F.getD n d0).2.1 > (F.getD b d0).2.1 → (F.getD n d0).2.2.1 = 5) :
    loopO (oqB a1 F S x false x30) (0 : Int) = some (.inl (false, ((b : Int), List.set S b (Go.IntKind.wrap .i64 (x30 + 1))))) := by
  obtain ⟨y, hy, hyb⟩ := get_at d0 hbF
  refine loopO_from (fun i => (i : Int)) F.length rfl (fun i hi => ?_) ?_
  · obtain ⟨z, hz, hzb⟩ := get_at d0 hi
    have hn : ((i : Int) + 1) = ((i + 1 : Nat) : Int) := rfl
    have hqi := hq i hi
    rw [hz, hy] at hqi
    unfold oqB
    rw [hb]
    by_cases c : z.2.1 > y.2.1
    · have h5 := hqi c
      simp (disch := (first | omega | (simp only [List.length_append, List.length_cons, List.length_nil, List.nil_append, List.length_take, List.length_drop]; omega))) only [↓bindO_some, ↓bindO_none, ↓joinO_inl, ↓joinO_inr, ↓joinO_none, ↓outO_some, ↓outO_none, ↓cond_true, ↓cond_false, ↓cond_and, ↓cond_or, ↓cond_not, ↓cond_ite, ↓if_pos, ↓if_neg, ↓if_true, ↓if_false, List.take_length, Nat.le_refl, Bool.not_true, Bool.not_false, if_pos, if_neg, ↓hyb, ↓hzb, wrap_i64', hn]
    · simp (disch := (first | omega | (simp only [List.length_append, List.length_cons, List.length_nil, List.nil_append, List.length_take, List.length_drop]; omega))) only [↓bindO_some, ↓bindO_none, ↓joinO_inl, ↓joinO_inr, ↓joinO_none, ↓outO_some, ↓outO_none, ↓cond_true, ↓cond_false, ↓cond_and, ↓cond_or, ↓cond_not, ↓cond_ite, ↓if_pos, ↓if_neg, ↓if_true, ↓if_false, List.take_length, Nat.le_refl, Bool.not_true, Bool.not_false, if_pos, if_neg, ↓hyb, ↓hzb, wrap_i64', hn]
  · unfold oqB
    rw [hb]
    simp (disch := (first | omega | (simp only [List.length_append, List.length_cons, List.length_nil, List.nil_append, List.length_take, List.length_drop]; omega))) only [↓bindO_some, ↓bindO_none, ↓joinO_inl, ↓joinO_inr, ↓joinO_none, ↓outO_some, ↓outO_none, ↓cond_true, ↓cond_false, ↓cond_and, ↓cond_or, ↓cond_not, ↓cond_ite, ↓if_pos, ↓if_neg, ↓if_true, ↓if_false, List.take_length, Nat.le_refl, Bool.not_true, Bool.not_false, if_pos, if_neg, Int.toNat_natCast]
def EndA (A : List Ac) (k : Nat) : Prop := ∃ i, i < k ∧ i < A.length ∧ ((A.getD i a0).1 = 4 ∨ (A.getD i a0).1 = 6)
structure OIn (n : Nat) (A : List Ac) (F : List Br) (O : Bool) (S : List Int) (k : Nat) (o : Bool) (s : List Int) : Prop where
  kl : k ≤ A.length
  oo : o = true → O = true ∨ EndA A k
  l : s.length = n
  z : ∀ j, j < n → (F.getD j d0).2.2.1 = 0 → s.getD j 0 = 0
  t : ∀ i, k ≤ i → i < A.length → (A.getD i a0).1 = 1 → ∀ b : Nat, (A.getD i a0).2.1 = (b : Int) → s.getD b 0 = 0
theorem getD_mem {A : List Ac} {i : Nat} (h : i < A.length) : A.getD i a0 ∈ A := by
  rw [getD_get a0 h]; exact List.getElem_mem h
theorem dst_ne {A : List Ac} (h : Dst A) {i j : Nat} (hij : i < j) (hj : j < A.length) : (A.getD i a0).1 = 1 → (A.getD j a0).1 = 1 → (A.getD i a0).2.1 ≠ (A.getD j a0).2.1 := by
  rw [getD_get a0 hj, getD_get a0 (show i < A.length by omega)]
  exact List.pairwise_iff_getElem.1 h i j (by omega) hj hij
theorem getD_setI {l : List Int} {i j : Nat} {y : Int} (h : j < l.length) : (List.set l i y).getD j 0 = if i = j then y else l.getD j 0 := by
  rw [List.getD_eq_getElem?_getD (l := List.set _ _ _), List.getElem?_set]
  by_cases e : i = j
  · subst e; rw [if_pos rfl, if_pos rfl, if_pos h]; rfl
  · rw [if_neg e, if_neg e, List.getD_eq_getElem?_getD]
structure OKn (n : Nat) (A : List Ac) (O : Bool) (S : List Int) (F : List Br) : Prop where
  lF : F.length = n
  lS : S.length = n
  n16 : n ≤ 16
  lA : A.length ≤ 40
  ho : ∀ x ∈ A, x.1 = 1 → ∃ i : Nat, x.2.1 = (i : Int) ∧ i < n ∧ S.getD i 0 = 0 ∧ (F.getD i d0).2.2.1 ≠ 0 ∧ ∀ m, m < n → (F.getD m d0).2.1 > (F.getD i d0).2.1 → (F.getD m d0).2.2.1 = 5
  hs : (∃ x ∈ A, x.1 = 1) → O = false ∧ ∀ x ∈ A, x.1 ≠ 4 ∧ x.1 ≠ 6
  hd : Dst A
  hz : ∀ j, j < n → (F.getD j d0).2.2.1 = 0 → S.getD j 0 = 0
theorem oi_j {a1 : List Tg} {A : List Ac} {F : List Br} {O : Bool} {S : List Int} (h : OKn a1.length A O S F) :
    ∃ r, loopO (oiB a1 A F) ((0 : Int), (O, S)) = some r ∧ ∃ (m : Int) (o : Bool) (s : List Int), r = .inl (m, (o, s)) ∧ (o = true → O = true ∨ ∃ x ∈ A, x.1 = 4 ∨ x.1 = 6) ∧ s.length = a1.length ∧ ∀ j, j < a1.length → (F.getD j d0).2.2.1 = 0 → s.getD j 0 = 0 := by
  refine loopO_post (fun x => ∃ (k : Nat) (o : Bool) (s : List Int), x = ((k : Int), (o, s)) ∧ OIn a1.length A F O S k o s) _ (fun x => A.length - x.1.toNat) (fun x hx => ?_) ⟨0, O, S, rfl, by omega, fun g => .inl g, h.lS, h.hz, fun i _ hi h1 b hb => ?_⟩
  · obtain ⟨k, o, s, rfl, hI⟩ := hx
    have hlA := h.lA
    have hlF := h.lF
    have h16 := h.n16
    have hls := hI.l
    have hk := hI.kl
    by_cases ck : k < A.length
    · refine .inr ?_
      obtain ⟨⟨x1, xb, xc⟩, hx, hxb⟩ := get_at a0 ck
      have hm := getD_mem ck
      have hn : ((k : Int) + 1) = ((k + 1 : Nat) : Int) := rfl
      have hlt : A.length - (((k + 1 : Nat) : Int)).toNat < A.length - ((k : Nat) : Int).toNat := by rw [Int.toNat_natCast, Int.toNat_natCast]; omega
      unfold oiB
      by_cases e1 : x1 = 1
      · subst e1
        obtain ⟨b, b1, b2, b3, b4, b5⟩ := h.ho _ hm (by rw [hx])
        obtain ⟨s1, s2⟩ := h.hs ⟨_, hm, by rw [hx]⟩
        have hxb' : xb = (b : Int) := by rw [hx] at b1; exact b1
        subst hxb'
        have ho : o = false := by
          cases o with
          | false => rfl
          | true =>
            rcases hI.oo rfl with g | ⟨i, _, g1, g2⟩
            · rw [s1] at g; cases g
            · have := s2 _ (getD_mem g1); omega
        subst ho
        have hsb : s.getD b 0 = 0 := hI.t k (Nat.le_refl _) ck (by rw [hx]) b (by rw [hx])
        obtain ⟨y, hy, hyb⟩ := get_at (0 : Int) (show b < s.length by omega)
        rw [hsb] at hy
        subst hy
        have hq := oq_j a1 F s (1, ((b : Int), xc)) 0 (b := b) rfl (by omega) (by omega) (fun m hm' => b5 m (by omega))
        refine ⟨(((k + 1 : Nat) : Int), (false, List.set s b (Go.IntKind.wrap .i64 (0 + 1)))), ?_, ⟨k + 1, false, _, rfl, ?_⟩, hlt⟩
        · simp (disch := omega) only [wrap_i64'] at hq
          simp (disch := (first | omega | (simp only [List.length_append, List.length_cons, List.length_nil, List.nil_append, List.length_take, List.length_drop]; omega))) only [↓bindO_some, ↓bindO_none, ↓joinO_inl, ↓joinO_inr, ↓joinO_none, ↓outO_some, ↓outO_none, ↓cond_true, ↓cond_false, ↓cond_and, ↓cond_or, ↓cond_not, ↓cond_ite, ↓if_pos, ↓if_neg, ↓if_true, ↓if_false, List.take_length, Nat.le_refl, Bool.not_true, Bool.not_false, if_pos, if_neg, ↓hxb, ↓hyb, hq, wrap_i64', hn, ne_eq, not_true, decide_false, cond_false, Int.toNat_natCast, gt_iff_lt, Int.lt_irrefl, ge_iff_le]
          rw [show decide ((1 : Int) = 6) = false from rfl, hq]
          rfl
        · refine ⟨by omega, (fun g => by cases g), by rw [List.length_set]; exact hls, fun j hj g => ?_, fun i hi hi' g c hc => ?_⟩
          · rw [getD_setI (by omega), if_neg (fun e => b4 (by rw [e]; exact g))]
            exact hI.z j hj g
          · obtain ⟨b', c1, c2, c3, _⟩ := h.ho _ (getD_mem hi') g
            have hne := dst_ne h.hd (show k < i by omega) hi' (by rw [hx]) g
            rw [hx, hc] at hne
            have hbc : b ≠ c := fun e => hne (by rw [e])
            rw [getD_setI (by omega), if_neg hbc]
            exact hI.t i (by omega) hi' g c hc
      · by_cases e2 : o = true
        · subst e2
          refine ⟨(((k + 1 : Nat) : Int), (true, s)), ?_, ⟨k + 1, true, _, rfl, ?_⟩, hlt⟩
          · simp (disch := (first | omega | (simp only [List.length_append, List.length_cons, List.length_nil, List.nil_append, List.length_take, List.length_drop]; omega))) only [↓bindO_some, ↓bindO_none, ↓joinO_inl, ↓joinO_inr, ↓joinO_none, ↓outO_some, ↓outO_none, ↓cond_true, ↓cond_false, ↓cond_and, ↓cond_or, ↓cond_not, ↓cond_ite, ↓if_pos, ↓if_neg, ↓if_true, ↓if_false, List.take_length, Nat.le_refl, Bool.not_true, Bool.not_false, if_pos, if_neg, ↓hxb, wrap_i64', hn, ne_eq]
          · exact ⟨by omega, fun _ => (hI.oo rfl).imp id fun ⟨i, g1, g2⟩ => ⟨i, by omega, g2⟩, hls, hI.z, fun i hi => hI.t i (by omega)⟩
        · have e2' : o = false := by cases o; rfl; exact (e2 rfl).elim
          subst e2'
          refine ⟨(((k + 1 : Nat) : Int), (decide (x1 = 4 ∨ x1 = 6), s)), ?_, ⟨k + 1, _, _, rfl, ?_⟩, hlt⟩
          · by_cases e4 : x1 = 4
            · simp (disch := (first | omega | (simp only [List.length_append, List.length_cons, List.length_nil, List.nil_append, List.length_take, List.length_drop]; omega))) only [↓bindO_some, ↓bindO_none, ↓joinO_inl, ↓joinO_inr, ↓joinO_none, ↓outO_some, ↓outO_none, ↓cond_true, ↓cond_false, ↓cond_and, ↓cond_or, ↓cond_not, ↓cond_ite, ↓if_pos, ↓if_neg, ↓if_true, ↓if_false, List.take_length, Nat.le_refl, Bool.not_true, Bool.not_false, if_pos, if_neg, ↓hxb, wrap_i64', hn, ne_eq, e4, true_or, decide_true]
            · by_cases e6 : x1 = 6
              · simp (disch := (first | omega | (simp only [List.length_append, List.length_cons, List.length_nil, List.nil_append, List.length_take, List.length_drop]; omega))) only [↓bindO_some, ↓bindO_none, ↓joinO_inl, ↓joinO_inr, ↓joinO_none, ↓outO_some, ↓outO_none, ↓cond_true, ↓cond_false, ↓cond_and, ↓cond_or, ↓cond_not, ↓cond_ite, ↓if_pos, ↓if_neg, ↓if_true, ↓if_false, List.take_length, Nat.le_refl, Bool.not_true, Bool.not_false, if_pos, if_neg, ↓hxb, wrap_i64', hn, ne_eq, e6, or_true, decide_true]
              · simp (disch := (first | omega | (simp only [List.length_append, List.length_cons, List.length_nil, List.nil_append, List.length_take, List.length_drop]; omega))) only [↓bindO_some, ↓bindO_none, ↓joinO_inl, ↓joinO_inr, ↓joinO_none, ↓outO_some, ↓outO_none, ↓cond_true, ↓cond_false, ↓cond_and, ↓cond_or, ↓cond_not, ↓cond_ite, ↓if_pos, ↓if_neg, ↓if_true, ↓if_false, List.take_length, Nat.le_refl, Bool.not_true, Bool.not_false, if_pos, if_neg, ↓hxb, wrap_i64', hn, ne_eq, e4, e6, or_false, decide_false]
          · refine ⟨by omega, fun g => .inr ⟨k, by omega, ck, ?_⟩, hls, hI.z, fun i hi => hI.t i (by omega)⟩
            rw [hx]
            exact of_decide_eq_true g
    · refine .inl ⟨_, ?_, (k : Int), o, s, rfl, fun g => (hI.oo g).imp id fun ⟨i, _, g1, g2⟩ => ⟨_, getD_mem g1, g2⟩, hls, hI.z⟩
      unfold oiB
      simp (disch := (first | omega | (simp only [List.length_append, List.length_cons, List.length_nil, List.nil_append, List.length_take, List.length_drop]; omega))) only [↓bindO_some, ↓bindO_none, ↓joinO_inl, ↓joinO_inr, ↓joinO_none, ↓outO_some, ↓outO_none, ↓cond_true, ↓cond_false, ↓cond_and, ↓cond_or, ↓cond_not, ↓cond_ite, ↓if_pos, ↓if_neg, ↓if_true, ↓if_false, List.take_length, Nat.le_refl, Bool.not_true, Bool.not_false, if_pos, if_neg]
  · obtain ⟨b', c1, c2, c3, _⟩ := h.ho _ (getD_mem hi) h1
    have : b' = b := by omega
    subst this
    exact c3
end Go.Proofs.Ytheicchelhjcjaa
