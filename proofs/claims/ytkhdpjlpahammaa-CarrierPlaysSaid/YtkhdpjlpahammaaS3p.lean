import Derived.Test.YtkhdpjlpahammaaS2p
set_option linter.unusedVariables false
set_option linter.unusedSimpArgs false
set_option maxRecDepth 100000
set_option maxHeartbeats 2000000
namespace Go.Proofs.Ytkhdpjlpahammaa
open Go.RowKit
theorem ro_loop {δ : Type} (due : List PcT) (L0 : List Int) (m : Int) (hL0 : L0.length ≤ 1000000) : ∀ (k : Nat) (A X Y B : List Int), X.length + Y.length ≤ k → X ≠ [] → Y ≠ [] → (A ++ X ++ Y ++ B).length = L0.length → m = ((A.length + X.length : Nat) : Int) →
    ∃ A1 X1 Y1 B1 : List Int, X1.length = Y1.length ∧ m = ((A1.length + X1.length : Nat) : Int) ∧ loopO (roB (δ := δ) L0 m due) ((Y.length : Int), ((X.length : Int), A ++ X ++ Y ++ B)) = some (.inl ((X1.length : Int), A1 ++ X1 ++ Y1 ++ B1)) ∧ A1 ++ Y1 ++ X1 ++ B1 = A ++ Y ++ X ++ B
  | 0, A, X, Y, B, hk, hX, hY, hl, hm => by cases X with | nil => exact (hX rfl).elim | cons _ _ => simp at hk
  | k + 1, A, X, Y, B, hk, hX, hY, hl, hm => by
    have hx0 : 0 < X.length := List.length_pos_iff.2 hX
    have hy0 : 0 < Y.length := List.length_pos_iff.2 hY
    have hlen := hl
    simp only [List.length_append] at hlen
    rcases Nat.lt_trichotomy X.length Y.length with g | g | g
    · obtain ⟨Ya, Yb, hYY, la⟩ := split_at Y (k := Y.length - X.length) (by omega)
      have lb : Yb.length = X.length := by have := congrArg List.length hYY; rw [List.length_append] at this; omega
      have hd : A ++ X ++ Y ++ B = A ++ X ++ Ya ++ Yb ++ B := by rw [hYY]; simp
      have hs := swap_spec due A X Ya Yb B lb.symm (by rw [← hd, hl]; omega) (a := m - (X.length : Int)) (b := m + (Y.length : Int) - (X.length : Int)) (n := (X.length : Int)) (by omega) (by omega) rfl
      rw [← hd] at hs
      have hstep : roB (δ := δ) L0 m due ((Y.length : Int), ((X.length : Int), A ++ X ++ Y ++ B)) = some (.inl ((Ya.length : Int), ((Yb.length : Int), A ++ Yb ++ Ya ++ (X ++ B)))) := by
        unfold roB
        have e1 : (Y.length : Int) - (X.length : Int) = (Ya.length : Int) := by omega
        have e2 : (Yb.length : Int) = (X.length : Int) := by omega
        have e3 : A ++ Yb ++ Ya ++ (X ++ B) = A ++ Yb ++ Ya ++ X ++ B := by simp
        rw [e2, e3]
        simp (disch := (first | omega | (simp only [List.length_append, List.length_cons, List.length_nil, List.nil_append, List.length_take, List.length_drop]; omega))) only [↓bindO_some, ↓bindO_none, ↓joinO_inl, ↓joinO_inr, ↓joinO_none, ↓outO_some, ↓outO_none, ↓cond_true, ↓cond_false, ↓cond_and, ↓cond_or, ↓cond_not, ↓cond_ite, ↓if_pos, ↓if_neg, ↓if_true, ↓if_false, List.take_length, Nat.le_refl, Bool.not_true, Bool.not_false, if_pos, if_neg, wrap_i64', hs, e1]
      obtain ⟨A1, X1, Y1, B1, q1, q2, q3, q4⟩ := ro_loop due L0 m hL0 k A Yb Ya (X ++ B) (by omega) (by rintro rfl; simp at lb; omega) (by rintro rfl; simp at la; omega) (by simp only [List.length_append]; omega) (by omega)
      refine ⟨A1, X1, Y1, B1, q1, q2, by rw [loopO_eq, hstep]; exact q3, ?_⟩
      rw [q4, hYY]; simp
    · refine ⟨A, X, Y, B, g, hm, ?_, rfl⟩
      rw [loopO_eq]
      have hstep : roB (δ := δ) L0 m due ((Y.length : Int), ((X.length : Int), A ++ X ++ Y ++ B)) = some (.inr (.inl ((X.length : Int), A ++ X ++ Y ++ B))) := by
        unfold roB
        simp (disch := (first | omega | (simp only [List.length_append, List.length_cons, List.length_nil, List.nil_append, List.length_take, List.length_drop]; omega))) only [↓bindO_some, ↓bindO_none, ↓joinO_inl, ↓joinO_inr, ↓joinO_none, ↓outO_some, ↓outO_none, ↓cond_true, ↓cond_false, ↓cond_and, ↓cond_or, ↓cond_not, ↓cond_ite, ↓if_pos, ↓if_neg, ↓if_true, ↓if_false, List.take_length, Nat.le_refl, Bool.not_true, Bool.not_false, if_pos, if_neg]
      rw [hstep]
    · obtain ⟨Xa, Xb, hXX, la⟩ := split_at X (k := Y.length) (by omega)
      have lb : Xb.length = X.length - Y.length := by have := congrArg List.length hXX; rw [List.length_append] at this; omega
      have hd : A ++ X ++ Y ++ B = A ++ Xa ++ Xb ++ Y ++ B := by rw [hXX]; simp
      have hs := swap_spec due A Xa Xb Y B la (by rw [← hd, hl]; omega) (a := m - (X.length : Int)) (b := m) (n := (Y.length : Int)) (by omega) (by omega) (by omega)
      rw [← hd] at hs
      have hstep : roB (δ := δ) L0 m due ((Y.length : Int), ((X.length : Int), A ++ X ++ Y ++ B)) = some (.inl ((Xa.length : Int), ((Xb.length : Int), (A ++ Y) ++ Xb ++ Xa ++ B))) := by
        unfold roB
        have e1 : (X.length : Int) - (Y.length : Int) = (Xb.length : Int) := by omega
        have e2 : (Xa.length : Int) = (Y.length : Int) := by omega
        rw [e2]
        simp (disch := (first | omega | (simp only [List.length_append, List.length_cons, List.length_nil, List.nil_append, List.length_take, List.length_drop]; omega))) only [↓bindO_some, ↓bindO_none, ↓joinO_inl, ↓joinO_inr, ↓joinO_none, ↓outO_some, ↓outO_none, ↓cond_true, ↓cond_false, ↓cond_and, ↓cond_or, ↓cond_not, ↓cond_ite, ↓if_pos, ↓if_neg, ↓if_true, ↓if_false, List.take_length, Nat.le_refl, Bool.not_true, Bool.not_false, if_pos, if_neg, wrap_i64', hs, e1]
      obtain ⟨A1, X1, Y1, B1, q1, q2, q3, q4⟩ := ro_loop due L0 m hL0 k (A ++ Y) Xb Xa B (by omega) (by rintro rfl; simp at lb; omega) (by rintro rfl; simp at la; omega) (by simp only [List.length_append]; omega) (by rw [List.length_append]; omega)
      refine ⟨A1, X1, Y1, B1, q1, q2, by rw [loopO_eq, hstep]; exact q3, ?_⟩
      rw [q4, hXX]; simp
theorem rot_spec (due : List PcT) (A X Y B : List Int) (hX : X ≠ []) (hY : Y ≠ []) (hl : (A ++ X ++ Y ++ B).length ≤ 1000000) {a m b : Int} (ha : a = (A.length : Int)) (hm : m = ((A.length + X.length : Nat) : Int)) (hb : b = ((A.length + X.length + Y.length : Nat) : Int)) :
    slices_rotateCmpFunc_int (A ++ X ++ Y ++ B, (a, (m, (b, due)))) = some (A ++ Y ++ X ++ B) := by
  have hlen := hl
  simp only [List.length_append] at hlen
  rw [ro_eq]
  obtain ⟨A1, X1, Y1, B1, q1, q2, q3, q4⟩ := ro_loop (δ := List Int) due (A ++ X ++ Y ++ B) m hl (X.length + Y.length) A X Y B (Nat.le_refl _) hX hY rfl hm
  have e1 : IntKind.wrap .i64 (b - m) = (Y.length : Int) := by rw [wrap_i64' (by omega)]; omega
  have e2 : IntKind.wrap .i64 (m - a) = (X.length : Int) := by rw [wrap_i64' (by omega)]; omega
  rw [e1, e2]
  refine joinO_eq q3 ?_
  have hll : (A1 ++ Y1 ++ X1 ++ B1).length = (A ++ Y ++ X ++ B).length := by rw [q4]
  simp only [List.length_append] at hll
  have hs := swap_spec due A1 X1 [] Y1 B1 q1 (by simp only [List.length_append, List.length_nil]; omega) (a := m - (X1.length : Int)) (b := m) (n := (X1.length : Int)) (by omega) (by simp; omega) rfl
  rw [List.append_nil, List.append_nil] at hs
  simp (disch := (first | omega | (simp only [List.length_append, List.length_cons, List.length_nil, List.nil_append, List.length_take, List.length_drop]; omega))) only [↓bindO_some, ↓bindO_none, ↓joinO_inl, ↓joinO_inr, ↓joinO_none, ↓outO_some, ↓outO_none, ↓cond_true, ↓cond_false, ↓cond_and, ↓cond_or, ↓cond_not, ↓cond_ite, ↓if_pos, ↓if_neg, ↓if_true, ↓if_false, List.take_length, Nat.le_refl, Bool.not_true, Bool.not_false, if_pos, if_neg, wrap_i64', hs, q4]
section
variable {due : List PcT} {V : Int → Prop} {c : Int → Int → Int} (hc : ∀ x y, V x → V y → carrier_Carrier_Receive_2 (x, (y, due)) = some (c x y)) (W : Weak V (fun x y => c x y < 0))
include hc W
theorem is_inner {δ : Type} (L0 : List Int) (hL0 : L0.length ≤ 1000000) (A : List Int) (x : Int) (R : List Int) (hx : V x) {a : Int} (ha : a = (A.length : Int)) : ∀ (k : Nat) (S1 S2 : List Int), S1.length = k → (A ++ S1 ++ x :: (S2 ++ R)).length = L0.length → (∀ y ∈ S1 ++ S2, V y) → Srt (fun x y => c x y < 0) (S1 ++ S2) → (∀ y ∈ S2, c x y < 0) →
    ∃ j S', loopO (isI (δ := δ) L0 a due) (((A.length + S1.length : Nat) : Int), A ++ S1 ++ x :: (S2 ++ R)) = some (.inl (j, A ++ S' ++ R)) ∧ S'.Perm (x :: (S1 ++ S2)) ∧ Srt (fun x y => c x y < 0) S'
  | 0, S1, S2, hk, hl, hV, hS, h2 => by
    obtain rfl := List.length_eq_zero_iff.1 hk
    refine ⟨((A.length + ([] : List Int).length : Nat) : Int), x :: S2, ?_, List.Perm.refl _, List.pairwise_cons.2 ⟨fun y hy => W.asym x y hx (hV y (by simpa using hy)) (h2 y hy), hS⟩⟩
    rw [loopO_eq]
    have hstep : isI (δ := δ) L0 a due (((A.length + ([] : List Int).length : Nat) : Int), A ++ [] ++ x :: (S2 ++ R)) = some (.inr (.inl (((A.length + ([] : List Int).length : Nat) : Int), A ++ [] ++ x :: (S2 ++ R)))) := by
      unfold isI
      simp (disch := (first | omega | (simp only [List.length_append, List.length_cons, List.length_nil, List.nil_append, List.length_take, List.length_drop]; omega))) only [↓bindO_some, ↓bindO_none, ↓joinO_inl, ↓joinO_inr, ↓joinO_none, ↓outO_some, ↓outO_none, ↓cond_true, ↓cond_false, ↓cond_and, ↓cond_or, ↓cond_not, ↓cond_ite, ↓if_pos, ↓if_neg, ↓if_true, ↓if_false, List.take_length, Nat.le_refl, Bool.not_true, Bool.not_false, if_pos, if_neg]
    rw [hstep]
    simp
  | k + 1, S1, S2, hk, hl, hV, hS, h2 => by
    obtain ⟨S, z, rfl⟩ := last_of (l := S1) (by rintro rfl; simp at hk)
    have lS : S.length = k := by rw [List.length_append, List.length_singleton] at hk; omega
    have hz : V z := hV z (by simp)
    have hlen := hl
    simp only [List.length_append, List.length_cons, List.length_nil] at hlen
    obtain ⟨P, hP⟩ : ∃ P, P = A ++ S := ⟨_, rfl⟩
    have lP : P.length = A.length + k := by rw [hP, List.length_append, lS]
    have hd : A ++ (S ++ [z]) ++ x :: (S2 ++ R) = P ++ z :: x :: (S2 ++ R) := by rw [hP]; simp
    have hj : ((A.length + (S ++ [z]).length : Nat) : Int) = ((P.length + 1 : Nat) : Int) := by rw [List.length_append, List.length_singleton]; omega
    have hcmp := hc x z hx hz
    rw [hj, hd, loopO_eq]
    by_cases hlt : c x z < 0
    · have hstep : isI (δ := δ) L0 a due (((P.length + 1 : Nat) : Int), P ++ z :: x :: (S2 ++ R)) = some (.inl (((A.length + S.length : Nat) : Int), A ++ S ++ x :: ((z :: S2) ++ R))) := by
        have e1 : ((P.length + 1 : Nat) : Int) - 1 = (P.length : Int) := by omega
        have e2 : ((A.length + S.length : Nat) : Int) = (P.length : Int) := by omega
        have e3 : A ++ S ++ x :: ((z :: S2) ++ R) = P ++ x :: z :: (S2 ++ R) := by rw [hP]; simp
        rw [e2, e3]
        unfold isI
        simp (disch := (first | omega | (simp only [List.length_append, List.length_cons, List.length_nil, List.nil_append, List.length_take, List.length_drop]; omega))) only [↓bindO_some, ↓bindO_none, ↓joinO_inl, ↓joinO_inr, ↓joinO_none, ↓outO_some, ↓outO_none, ↓cond_true, ↓cond_false, ↓cond_and, ↓cond_or, ↓cond_not, ↓cond_ite, ↓if_pos, ↓if_neg, ↓if_true, ↓if_false, List.take_length, Nat.le_refl, Bool.not_true, Bool.not_false, if_pos, if_neg, wrap_i64', e1, ↓ad_get1, ↓ad_get2, ad_set1, ad_set2, hcmp, hlt, decide_true]
      rw [hstep]
      obtain ⟨j, S', q1, q2, q3⟩ := is_inner L0 hL0 A x R hx ha k S (z :: S2) lS (by simp only [List.length_append, List.length_cons]; omega) (fun y hy => hV y (by simp at hy ⊢; rcases hy with h | h | h <;> simp [h])) (by simpa using hS) (fun y hy => by
        rcases List.mem_cons.1 hy with rfl | h
        · exact hlt
        · exact h2 y h)
      exact ⟨j, S', q1, q2.trans (by simp), q3⟩
    · have hstep : isI (δ := δ) L0 a due (((P.length + 1 : Nat) : Int), P ++ z :: x :: (S2 ++ R)) = some (.inr (.inl (((P.length + 1 : Nat) : Int), P ++ z :: x :: (S2 ++ R)))) := by
        have e1 : ((P.length + 1 : Nat) : Int) - 1 = (P.length : Int) := by omega
        unfold isI
        simp (disch := (first | omega | (simp only [List.length_append, List.length_cons, List.length_nil, List.nil_append, List.length_take, List.length_drop]; omega))) only [↓bindO_some, ↓bindO_none, ↓joinO_inl, ↓joinO_inr, ↓joinO_none, ↓outO_some, ↓outO_none, ↓cond_true, ↓cond_false, ↓cond_and, ↓cond_or, ↓cond_not, ↓cond_ite, ↓if_pos, ↓if_neg, ↓if_true, ↓if_false, List.take_length, Nat.le_refl, Bool.not_true, Bool.not_false, if_pos, if_neg, wrap_i64', e1, ↓ad_get1, ↓ad_get2, ad_set1, ad_set2, hcmp, hlt, decide_false]
      rw [hstep]
      have hS1 := (List.pairwise_append.1 hS).1
      refine ⟨((P.length + 1 : Nat) : Int), (S ++ [z]) ++ x :: S2, by rw [hP]; simp, ?_, ?_⟩
      · exact List.perm_middle
      · refine srt_app hS1 (List.pairwise_cons.2 ⟨fun y hy => W.asym x y hx (hV y (by simp [hy])) (h2 y hy), (List.pairwise_append.1 hS).2.1⟩) fun y hy w hw => ?_
        rcases List.mem_cons.1 hw with rfl | hw
        · exact srt_last W hS1 (fun q hq => hV q (List.mem_append_left _ hq)) hx hlt y hy
        · exact (List.pairwise_append.1 hS).2.2 y hy w hw
theorem is_outer (L0 : List Int) (hL0 : L0.length ≤ 1000000) (A B : List Int) {a b : Int} (ha : a = (A.length : Int)) (hV : ∀ y ∈ L0, V y) : ∀ (k : Nat) (S T : List Int), T.length = k → 0 < S.length → (A ++ S ++ T ++ B).Perm L0 → b = ((A.length + S.length + T.length : Nat) : Int) → Srt (fun x y => c x y < 0) S →
    ∃ S', loopO (isO L0 a b due) (((A.length + S.length : Nat) : Int), A ++ S ++ T ++ B) = some (A ++ S' ++ B) ∧ S'.Perm (S ++ T) ∧ Srt (fun x y => c x y < 0) S'
  | 0, S, T, hk, h0, hp, hb, hS => by
    obtain rfl := List.length_eq_zero_iff.1 hk
    refine ⟨S, ?_, by simp, hS⟩
    rw [loopO_eq]
    have hstep : isO L0 a b due (((A.length + S.length : Nat) : Int), A ++ S ++ [] ++ B) = some (.inr (A ++ S ++ [] ++ B)) := by
      have hb' : ¬ ((A.length + S.length : Nat) : Int) < b := by rw [hb]; simp
      unfold isO
      simp (disch := (first | omega | (simp only [List.length_append, List.length_cons, List.length_nil, List.nil_append, List.length_take, List.length_drop]; omega))) only [↓bindO_some, ↓bindO_none, ↓joinO_inl, ↓joinO_inr, ↓joinO_none, ↓outO_some, ↓outO_none, ↓cond_true, ↓cond_false, ↓cond_and, ↓cond_or, ↓cond_not, ↓cond_ite, ↓if_pos, ↓if_neg, ↓if_true, ↓if_false, List.take_length, Nat.le_refl, Bool.not_true, Bool.not_false, if_pos, if_neg, hb']
    rw [hstep]; simp
  | k + 1, S, T, hk, h0, hp, hb, hS => by
    cases T with
    | nil => simp at hk
    | cons x T =>
      have hl := hp.length_eq
      have hlen := hl
      simp only [List.length_append, List.length_cons] at hlen
      have hmem : ∀ y ∈ A ++ S ++ (x :: T) ++ B, V y := fun y hy => hV y (hp.mem_iff.1 hy)
      have hx : V x := hmem x (by simp)
      obtain ⟨j, S', q1, q2, q3⟩ := is_inner hc W (δ := (Int × List Int) ⊕ List Int) L0 hL0 A x (T ++ B) hx ha S.length S [] rfl (by simp only [List.length_append, List.length_cons, List.length_nil]; omega) (fun y hy => hmem y (by simp at hy ⊢; simp [hy])) (by simpa using hS) (fun y hy => by cases hy)
      have lS' : S'.length = S.length + 1 := by rw [q2.length_eq]; simp
      have q2' : S'.Perm (x :: S) := by simpa using q2
      have hd : A ++ S ++ (x :: T) ++ B = A ++ S ++ x :: ([] ++ (T ++ B)) := by simp
      have hstep : isO L0 a b due (((A.length + S.length : Nat) : Int), A ++ S ++ (x :: T) ++ B) = some (.inl (((A.length + S'.length : Nat) : Int), A ++ S' ++ T ++ B)) := by
        have hb' : ((A.length + S.length : Nat) : Int) < b := by rw [hb]; simp only [List.length_cons]; omega
        have e1 : ((A.length + S.length : Nat) : Int) + 1 = ((A.length + S'.length : Nat) : Int) := by omega
        have e2 : A ++ S' ++ T ++ B = A ++ S' ++ (T ++ B) := by simp
        rw [hd, e2]
        unfold isO
        simp (disch := (first | omega | (simp only [List.length_append, List.length_cons, List.length_nil, List.nil_append, List.length_take, List.length_drop]; omega))) only [↓bindO_some, ↓bindO_none, ↓joinO_inl, ↓joinO_inr, ↓joinO_none, ↓outO_some, ↓outO_none, ↓cond_true, ↓cond_false, ↓cond_and, ↓cond_or, ↓cond_not, ↓cond_ite, ↓if_pos, ↓if_neg, ↓if_true, ↓if_false, List.take_length, Nat.le_refl, Bool.not_true, Bool.not_false, if_pos, if_neg, hb']
        refine joinO_eq q1 ?_
        simp (disch := (first | omega | (simp only [List.length_append, List.length_cons, List.length_nil, List.nil_append, List.length_take, List.length_drop]; omega))) only [↓bindO_some, ↓bindO_none, ↓joinO_inl, ↓joinO_inr, ↓joinO_none, ↓outO_some, ↓outO_none, ↓cond_true, ↓cond_false, ↓cond_and, ↓cond_or, ↓cond_not, ↓cond_ite, ↓if_pos, ↓if_neg, ↓if_true, ↓if_false, List.take_length, Nat.le_refl, Bool.not_true, Bool.not_false, if_pos, if_neg, wrap_i64', e1]
      rw [loopO_eq, hstep]
      obtain ⟨S2, r1, r2, r3⟩ := is_outer (b := b) L0 hL0 A B ha hV k S' T (by simpa using hk) (by omega) (by
        refine List.Perm.trans ?_ hp
        refine List.Perm.append_right B ?_
        rw [List.append_assoc, List.append_assoc]
        refine List.Perm.append_left A ((q2'.append_right T).trans ?_)
        exact List.perm_middle.symm) (by rw [hb, lS']; simp only [List.length_cons]; omega) q3
      exact ⟨S2, r1, r2.trans ((q2'.append_right T).trans List.perm_middle.symm), r3⟩
theorem ins_spec (A X B : List Int) (hX : X ≠ []) (hl : (A ++ X ++ B).length ≤ 1000000) (hV : ∀ y ∈ A ++ X ++ B, V y) {a b : Int} (ha : a = (A.length : Int)) (hb : b = ((A.length + X.length : Nat) : Int)) :
    ∃ Z, slices_insertionSortCmpFunc_int (A ++ X ++ B, (a, (b, due))) = some (A ++ Z ++ B) ∧ Z.Perm X ∧ Srt (fun x y => c x y < 0) Z := by
  cases X with
  | nil => exact (hX rfl).elim
  | cons x T =>
    have hlen := hl
    simp only [List.length_append, List.length_cons] at hlen
    obtain ⟨Z, q1, q2, q3⟩ := is_outer hc W (A ++ (x :: T) ++ B) hl A B ha hV T.length [x] T rfl (by simp) (by simp) (b := b) (by rw [hb]; simp; omega) (List.pairwise_singleton _ _)
    refine ⟨Z, ?_, by simpa using q2, q3⟩
    rw [is_eq]
    have e1 : IntKind.wrap .i64 (a + 1) = ((A.length + [x].length : Nat) : Int) := by rw [wrap_i64' (by omega), ha]; simp
    have e2 : A ++ (x :: T) ++ B = A ++ [x] ++ T ++ B := by simp
    rw [e1]
    rw [e2] at q1 ⊢
    exact q1
end
end Go.Proofs.Ytkhdpjlpahammaa
