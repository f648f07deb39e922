import Derived.Test.YtheicchelhjcjaaJ11p
set_option linter.unusedVariables false
set_option linter.unusedSimpArgs false
set_option maxRecDepth 100000
namespace Go.Proofs.Ytheicchelhjcjaa
open Go.RowKit
theorem at_app {α β : Type} (P : List α) (s : α) (Q : List α) (f : α → Option β) : bindO (P ++ s :: Q)[P.length]? f = f s := by
  rw [List.getElem?_append_right (Nat.le_refl _), Nat.sub_self]; rfl
theorem at_app1 {α β : Type} (P : List α) (s y : α) (Q : List α) (f : α → Option β) : bindO (P ++ s :: y :: Q)[P.length + 1]? f = f y := by
  rw [List.getElem?_append_right (by omega), Nat.add_sub_cancel_left]; rfl
theorem set_app {α : Type} (P : List α) (s z : α) (Q : List α) : List.set (P ++ s :: Q) P.length z = P ++ z :: Q := by
  rw [List.set_append_right _ _ (Nat.le_refl _), Nat.sub_self]; rfl
theorem set_app1 {α : Type} (P : List α) (s y z : α) (Q : List α) : List.set (P ++ s :: y :: Q) (P.length + 1) z = P ++ s :: z :: Q := by
  rw [List.set_append_right _ _ (by omega), Nat.add_sub_cancel_left]; rfl
abbrev Qk (x : Br) : Prop := 0 ≤ x.2.1 ∧ x.2.1 ≤ 1000
theorem nx_round {δ : Type} {V : List Br} {P Q : List Br} {s y : Br} (hV : V.length = P.length + 2 + Q.length) (hl : V.length ≤ 1000) (hs : Qk s) (hy : Qk y) :
    (s.2.1 < y.2.1 → nxB (δ := δ) V (((P.length + 1 : Nat) : Int), P ++ s :: y :: Q) = some (.inl ((P.length : Int), P ++ y :: s :: Q))) ∧ (¬ s.2.1 < y.2.1 → nxB (δ := δ) V (((P.length + 1 : Nat) : Int), P ++ s :: y :: Q) = some (.inr (.inl (((P.length + 1 : Nat) : Int), P ++ s :: y :: Q)))) := by
  have hm : Go.IntKind.wrap .i64 (((P.length + 1 : Nat) : Int) - 1) = (P.length : Int) := by rw [wrap_i64' (by omega)]; omega
  have hw : Go.IntKind.wrap .i64 (s.2.1 - y.2.1) = s.2.1 - y.2.1 := wrap_i64' (by have := hs; have := hy; omega)
  have a1 := fun {β : Type} (f : Br → Option β) => at_app P s (y :: Q) f
  have a2 := fun {β : Type} (f : Br → Option β) => at_app1 P s y Q f
  have a3 := fun z => set_app1 P s y z Q
  have a4 := fun {β : Type} (f : Br → Option β) => at_app P s (s :: Q) f
  have a5 := fun z => set_app P s z (s :: Q)
  constructor
  · intro h
    unfold nxB
    have hn : s.2.1 - y.2.1 < 0 := by omega
    simp (disch := (first | omega | (simp only [List.length_append, List.length_cons, List.length_nil, List.nil_append, List.length_take, List.length_drop]; omega))) only [↓bindO_some, ↓bindO_none, ↓joinO_inl, ↓joinO_inr, ↓joinO_none, ↓outO_some, ↓outO_none, ↓cond_true, ↓cond_false, ↓cond_and, ↓cond_or, ↓cond_not, ↓cond_ite, ↓if_pos, ↓if_neg, ↓if_true, ↓if_false, List.take_length, Nat.le_refl, Bool.not_true, Bool.not_false, hm, hw, Int.toNat_natCast, a1, a2, a3, a4, a5]
  · intro h
    unfold nxB
    have hn : ¬ s.2.1 - y.2.1 < 0 := by omega
    simp (disch := (first | omega | (simp only [List.length_append, List.length_cons, List.length_nil, List.nil_append, List.length_take, List.length_drop]; omega))) only [↓bindO_some, ↓bindO_none, ↓joinO_inl, ↓joinO_inr, ↓joinO_none, ↓outO_some, ↓outO_none, ↓cond_true, ↓cond_false, ↓cond_and, ↓cond_or, ↓cond_not, ↓cond_ite, ↓if_pos, ↓if_neg, ↓if_true, ↓if_false, List.take_length, Nat.le_refl, Bool.not_true, Bool.not_false, hm, hw, Int.toNat_natCast, a1, a2, a3, a4, a5]
theorem nx_zero {δ : Type} {V L : List Br} : nxB (δ := δ) V ((0 : Int), L) = some (.inr (.inl ((0 : Int), L))) := by
  unfold nxB
  simp (disch := omega) only [↓bindO_some, ↓bindO_none, ↓joinO_inl, ↓joinO_inr, ↓joinO_none, ↓outO_some, ↓outO_none, ↓cond_true, ↓cond_false, ↓cond_and, ↓cond_or, ↓cond_not, ↓cond_ite, ↓if_pos, ↓if_neg, ↓if_true, ↓if_false, List.take_length, Nat.le_refl, Bool.not_true, Bool.not_false]
theorem getD_app {P Z : List Br} {k : Nat} (h : k < P.length) : (P ++ Z).getD k d0 = P.getD k d0 := by
  rw [List.getD_eq_getElem?_getD, List.getD_eq_getElem?_getD, List.getElem?_append_left h]
theorem getD_last {P : List Br} {s : Br} : (P ++ [s]).getD P.length d0 = s := by
  rw [List.getD_eq_getElem?_getD, List.getElem?_append_right (Nat.le_refl _), Nat.sub_self]; rfl
theorem atP_app (q : Int) (P Z : List Br) {k : Nat} (h : k ≤ P.length) : atP q (P ++ Z) k = atP q P k := by
  induction k with
  | zero => rfl
  | succ k ih => rw [atP_succ, atP_succ, getD_app (by omega), ih (by omega)]
theorem atP_snoc (q : Int) (P : List Br) (s : Br) : atP q (P ++ [s]) (P ++ [s]).length = if q ≤ s.2.1 then P.length + 1 else atP q P P.length := by
  have : (P ++ [s]).length = P.length + 1 := by simp
  rw [this, atP_succ, getD_last, atP_app q P [s] (Nat.le_refl _)]
theorem insA_hi {y s : Br} {P : List Br} (h : y.2.1 ≤ s.2.1) : insA y (P ++ [s]) = P ++ [s] ++ [y] := by
  unfold insA
  rw [atP_snoc, if_pos h]
  have : (P ++ [s]).length = P.length + 1 := by simp
  rw [← this, List.take_length, List.drop_length]
theorem insA_lo {y s : Br} {P : List Br} (h : ¬ y.2.1 ≤ s.2.1) : insA y (P ++ [s]) = insA y P ++ [s] := by
  unfold insA
  rw [atP_snoc, if_neg h]
  have := atP_le y.2.1 P P.length
  rw [List.take_append_of_le_length this, List.drop_append_of_le_length this]
  simp
theorem nx_j {δ : Type} {V : List Br} {y : Br} (hy : Qk y) (hl : V.length ≤ 1000) : ∀ (n : Nat) (S R : List Br), S.length = n → V.length = n + 1 + R.length → (∀ z ∈ S, Qk z) → ∃ a : Int, loopO (nxB (δ := δ) V) ((S.length : Int), S ++ y :: R) = some (.inl (a, insA y S ++ R)) := by
  intro n
  induction n with
  | zero =>
    intro S R hS hV hq
    have : S = [] := List.length_eq_zero_iff.1 hS
    subst this
    exact ⟨0, loopO_from (fun _ => ((0 : Int), [] ++ y :: R)) 0 rfl (fun i hi => by omega) nx_zero⟩
  | succ n ih =>
    intro S R hS hV hq
    rcases List.eq_nil_or_concat S with h | ⟨P, s, h⟩
    · subst h; simp at hS
    · rw [List.concat_eq_append] at h
      subst h
      have hP : P.length = n := by simpa using hS
      have hl2 : (P ++ [s]).length = P.length + 1 := by simp
      have hs : Qk s := hq s (by simp)
      have e : P ++ [s] ++ y :: R = P ++ s :: y :: R := by simp
      rw [hl2, e]
      obtain ⟨r1, r2⟩ := nx_round (δ := δ) (V := V) (P := P) (Q := R) (s := s) (y := y) (by omega) hl hs hy
      by_cases hc : s.2.1 < y.2.1
      · obtain ⟨a, ha⟩ := ih P (s :: R) hP (by rw [List.length_cons]; omega) (fun z hz => hq z (by simp [hz]))
        refine ⟨a, ?_⟩
        rw [loopO_eq, r1 hc]
        show loopO _ _ = _
        rw [ha, insA_lo (by omega)]
        simp
      · refine ⟨((P.length + 1 : Nat) : Int), ?_⟩
        rw [loopO_eq, r2 hc, insA_hi (by omega)]
        simp
theorem srt_q {T : List Tg} {i : Nat} (h : ∀ k, k < i → ¬ bad2 (T.getD k t0)) : ∀ z ∈ SRT T i, Qk z := by
  intro z hz
  obtain ⟨k, k1, k2⟩ := mem_SRT.1 hz
  subst k2
  have := h k k1
  unfold bad2 at this
  have h1 : ¬ (T.getD k t0).2 < 0 := fun g => this (.inr (.inl g))
  have h2 : ¬ (T.getD k t0).2 > 1000 := fun g => this (.inr (.inr g))
  show 0 ≤ (T.getD k t0).2 ∧ (T.getD k t0).2 ≤ 1000
  omega
theorem EE_ok {T : List Tg} {i : Nat} (h : EE T i = 0) : ¬ bad2 (T.getD i t0) ∧ ¬ dup T i := by
  refine ⟨fun k => by rw [EE_2 k] at h; omega, fun k => ?_⟩
  by_cases g : bad2 (T.getD i t0)
  · rw [EE_2 g] at h; omega
  · rw [EE_7 g k] at h; omega
theorem ns_j {δ : Type} {V : List Br} {U : List Tg} (hV : V.length = U.length) (hl : U.length ≤ 16) (hb : ∀ k, k < U.length → ¬ bad2 (U.getD k t0)) : loopO (nsB (δ := δ) V) ((1 : Int), U.map br) = some (.inl (SRT U U.length)) := by
  cases hU : U with
  | nil =>
    subst hU
    refine loopO_from (fun _ => ((1 : Int), [])) 0 rfl (fun i hi => by omega) ?_
    have : V.length = 0 := hV
    unfold nsB
    simp (disch := omega) only [↓bindO_some, ↓bindO_none, ↓joinO_inl, ↓joinO_inr, ↓joinO_none, ↓outO_some, ↓outO_none, ↓cond_true, ↓cond_false, ↓cond_and, ↓cond_or, ↓cond_not, ↓cond_ite, ↓if_pos, ↓if_neg, ↓if_true, ↓if_false, List.take_length, Nat.le_refl, Bool.not_true, Bool.not_false]
    rfl
  | cons u0 U' =>
    rw [← hU]
    have hn : 0 < U.length := by rw [hU]; simp
    refine loopO_from (fun k => (((k + 1 : Nat) : Int), SRT U (k + 1) ++ (U.drop (k + 1)).map br)) (U.length - 1) ?_ (fun i hi => ?_) ?_
    · have h1 : SRT U 1 = [br u0] := by rw [hU]; rfl
      show ((1 : Int), SRT U 1 ++ (U.drop 1).map br) = _
      rw [h1, hU]; rfl
    · have hi' : i + 1 < U.length := by omega
      have hd : U.drop (i + 1) = U.getD (i + 1) t0 :: U.drop (i + 1 + 1) := by
        rw [List.drop_eq_getElem_cons hi', List.getD_eq_getElem?_getD, List.getElem?_eq_getElem hi']; rfl
      have hs := SRT_len U (i + 1)
      have hy : Qk (br (U.getD (i + 1) t0)) := by
        have := hb (i + 1) hi'
        unfold bad2 at this
        have h1 : ¬ (U.getD (i + 1) t0).2 < 0 := fun g => this (.inr (.inl g))
        have h2 : ¬ (U.getD (i + 1) t0).2 > 1000 := fun g => this (.inr (.inr g))
        show 0 ≤ (U.getD (i + 1) t0).2 ∧ (U.getD (i + 1) t0).2 ≤ 1000
        omega
      obtain ⟨a, ha⟩ := nx_j (δ := (Int × List Br) ⊕ (List Br ⊕ δ)) (V := V) hy (by omega) (i + 1) (SRT U (i + 1)) ((U.drop (i + 1 + 1)).map br) hs (by rw [List.length_map, List.length_drop]; omega) (srt_q fun k hk => hb k (by omega))
      rw [hs] at ha
      have hS : SRT U (i + 1 + 1) = insA (br (U.getD (i + 1) t0)) (SRT U (i + 1)) := rfl
      have hn1 : (((i + 1 : Nat) : Int) + 1) = ((i + 1 + 1 : Nat) : Int) := rfl
      rw [hd, List.map_cons, hS]
      unfold nsB
      simp (disch := (first | omega | (simp only [List.length_append, List.length_cons, List.length_nil, List.nil_append, List.length_take, List.length_drop]; omega))) only [↓bindO_some, ↓bindO_none, ↓joinO_inl, ↓joinO_inr, ↓joinO_none, ↓outO_some, ↓outO_none, ↓cond_true, ↓cond_false, ↓cond_and, ↓cond_or, ↓cond_not, ↓cond_ite, ↓if_pos, ↓if_neg, ↓if_true, ↓if_false, List.take_length, Nat.le_refl, Bool.not_true, Bool.not_false, wrap_i64', hn1]
      rw [ha]
      rfl
    · have h2 : U.length - 1 + 1 = U.length := by omega
      have h3 : U.drop U.length = [] := List.drop_length
      rw [h2, h3]
      unfold nsB
      simp (disch := (first | omega | (simp only [List.length_append, List.length_cons, List.length_nil, List.nil_append, List.length_take, List.length_drop]; omega))) only [↓bindO_some, ↓bindO_none, ↓joinO_inl, ↓joinO_inr, ↓joinO_none, ↓outO_some, ↓outO_none, ↓cond_true, ↓cond_false, ↓cond_and, ↓cond_or, ↓cond_not, ↓cond_ite, ↓if_pos, ↓if_neg, ↓if_true, ↓if_false, List.take_length, Nat.le_refl, Bool.not_true, Bool.not_false, List.map_nil, List.append_nil]
end Go.Proofs.Ytheicchelhjcjaa
