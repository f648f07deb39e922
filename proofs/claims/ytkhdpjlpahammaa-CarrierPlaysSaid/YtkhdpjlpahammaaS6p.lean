import Derived.Test.YtkhdpjlpahammaaS5p
set_option linter.unusedVariables false
set_option linter.unusedSimpArgs false
set_option maxRecDepth 100000
set_option maxHeartbeats 4000000
namespace Go.Proofs.Ytkhdpjlpahammaa
open Go.RowKit
section
variable {due : List PcT} {V : Int → Prop} {c : Int → Int → Int} (hc : ∀ x y, V x → V y → carrier_Carrier_Receive_2 (x, (y, due)) = some (c x y)) (W : Weak V (fun x y => c x y < 0))
include hc W
theorem st_first {δ : Type} (L0 : List Int) (hL : L0.length ≤ 200) (hV : ∀ y ∈ L0, V y) : ∀ (k : Nat) (Ls : List (List Int)) (T : List Int), T.length ≤ k → Full (fun x y => c x y < 0) 20 Ls → (Ls.flatten ++ T).Perm L0 →
    ∃ Ls' T' b', loopO (stA (δ := δ) L0 (L0.length : Int) due) ((Ls.flatten.length : Int) + 20, ((Ls.flatten.length : Int), Ls.flatten ++ T)) = some (.inl (b', ((Ls'.flatten.length : Int), Ls'.flatten ++ T'))) ∧ Full (fun x y => c x y < 0) 20 Ls' ∧ (Ls'.flatten ++ T').Perm L0 ∧ T'.length < 20
  | k, Ls, T, hk, hF, hp => by
    have hl := hp.length_eq
    have hlen := hl
    rw [List.length_append] at hlen
    have hmem : ∀ y ∈ Ls.flatten ++ T, V y := fun y hy => hV y (hp.mem_iff.1 hy)
    by_cases h20 : 20 ≤ T.length
    · cases k with
      | zero => omega
      | succ k =>
        obtain ⟨X, B, hT, lX⟩ := split_at T (k := 20) h20
        have lT : T.length = 20 + B.length := by rw [hT, List.length_append, lX]
        have hd : Ls.flatten ++ T = Ls.flatten ++ X ++ B := by rw [hT]; simp
        obtain ⟨Z, q1, q2, q3⟩ := ins_spec hc W Ls.flatten X B (by rintro rfl; simp at lX) (by rw [← hd, hl]; omega) (by rw [← hd]; exact hmem) (a := (Ls.flatten.length : Int)) (b := (Ls.flatten.length : Int) + 20) rfl (by omega)
        have lZ : Z.length = 20 := by rw [q2.length_eq, lX]
        have hfl : (Ls ++ [Z]).flatten = Ls.flatten ++ Z := by simp
        have hstep : stA (δ := δ) L0 (L0.length : Int) due ((Ls.flatten.length : Int) + 20, ((Ls.flatten.length : Int), Ls.flatten ++ T)) = some (.inl (((Ls ++ [Z]).flatten.length : Int) + 20, (((Ls ++ [Z]).flatten.length : Int), (Ls ++ [Z]).flatten ++ B))) := by
          have e1 : ((Ls ++ [Z]).flatten.length : Int) = (Ls.flatten.length : Int) + 20 := by rw [hfl, List.length_append]; omega
          have hll : (Ls.flatten ++ X ++ B).length = L0.length := by rw [← hd]; exact hl
          rw [e1, hfl, hd]
          unfold stA
          simp (disch := (first | omega | (simp only [List.length_append, List.length_cons, List.length_nil, List.nil_append, List.length_take, List.length_drop]; omega))) only [↓bindO_some, ↓bindO_none, ↓joinO_inl, ↓joinO_inr, ↓joinO_none, ↓outO_some, ↓outO_none, ↓cond_true, ↓cond_false, ↓cond_and, ↓cond_or, ↓cond_not, ↓cond_ite, ↓if_pos, ↓if_neg, ↓if_true, ↓if_false, List.take_length, Nat.le_refl, Bool.not_true, Bool.not_false, if_pos, if_neg, wrap_i64', q1, hll]
        obtain ⟨Ls', T', b', r1, r2, r3, r4⟩ := st_first L0 hL hV k (Ls ++ [Z]) B (by omega) (fun x hx => by
          rcases List.mem_append.1 hx with g | g
          · exact hF x g
          · rw [List.mem_singleton.1 g]; exact ⟨lZ, q3⟩) (by
          rw [hfl]
          refine List.Perm.trans ?_ hp
          rw [hd]
          exact List.Perm.append_right B (List.Perm.append_left _ q2))
        exact ⟨Ls', T', b', by rw [loopO_eq, hstep]; exact r1, r2, r3, r4⟩
    · refine ⟨Ls, T, (Ls.flatten.length : Int) + 20, ?_, hF, hp, by omega⟩
      rw [loopO_eq]
      have hstep : stA (δ := δ) L0 (L0.length : Int) due ((Ls.flatten.length : Int) + 20, ((Ls.flatten.length : Int), Ls.flatten ++ T)) = some (.inr (.inl ((Ls.flatten.length : Int) + 20, ((Ls.flatten.length : Int), Ls.flatten ++ T)))) := by
        unfold stA
        simp (disch := (first | omega | (simp only [List.length_append, List.length_cons, List.length_nil, List.nil_append, List.length_take, List.length_drop]; omega))) only [↓bindO_some, ↓bindO_none, ↓joinO_inl, ↓joinO_inr, ↓joinO_none, ↓outO_some, ↓outO_none, ↓cond_true, ↓cond_false, ↓cond_and, ↓cond_or, ↓cond_not, ↓cond_ite, ↓if_pos, ↓if_neg, ↓if_true, ↓if_false, List.take_length, Nat.le_refl, Bool.not_true, Bool.not_false, if_pos, if_neg]
      rw [hstep]
theorem ins_any (A X : List Int) (hl : (A ++ X).length ≤ 1000000) (hV : ∀ y ∈ A ++ X, V y) : ∃ Z, slices_insertionSortCmpFunc_int (A ++ X, ((A.length : Int), (((A ++ X).length : Int), due))) = some (A ++ Z) ∧ Z.Perm X ∧ Srt (fun x y => c x y < 0) Z := by
  cases X with
  | nil =>
    refine ⟨[], ?_, List.Perm.refl _, List.Pairwise.nil⟩
    rw [List.append_nil] at hl ⊢
    rw [is_eq, loopO_eq]
    have e1 : IntKind.wrap .i64 ((A.length : Int) + 1) = (A.length : Int) + 1 := wrap_i64' (by omega)
    have hstep : isO A (A.length : Int) (A.length : Int) due ((A.length : Int) + 1, A) = some (.inr A) := by
      unfold isO
      simp (disch := (first | omega | (simp only [List.length_append, List.length_cons, List.length_nil, List.nil_append, List.length_take, List.length_drop]; omega))) only [↓bindO_some, ↓bindO_none, ↓joinO_inl, ↓joinO_inr, ↓joinO_none, ↓outO_some, ↓outO_none, ↓cond_true, ↓cond_false, ↓cond_and, ↓cond_or, ↓cond_not, ↓cond_ite, ↓if_pos, ↓if_neg, ↓if_true, ↓if_false, List.take_length, Nat.le_refl, Bool.not_true, Bool.not_false, if_neg]
    rw [e1, hstep]
  | cons x T =>
    obtain ⟨Z, q1, q2, q3⟩ := ins_spec hc W A (x :: T) [] (by simp) (by rw [List.append_nil]; exact hl) (by rw [List.append_nil]; exact hV) (a := (A.length : Int)) (b := ((A ++ (x :: T)).length : Int)) rfl (by rw [List.length_append])
    rw [List.append_nil, List.append_nil] at q1
    exact ⟨Z, q1, q2, q3⟩
theorem st_pass {δ : Type} (L0 : List Int) (hL : L0.length ≤ 200) (hV : ∀ y ∈ L0, V y) (s : Nat) (hs : 0 < s) (hs2 : s ≤ 400) : ∀ (k : Nat) (Zs Ts : List (List Int)), Ts.length ≤ k → Full (fun x y => c x y < 0) (2 * s) Zs → Ch (fun x y => c x y < 0) s Ts → (Zs.flatten ++ Ts.flatten).Perm L0 →
    ∃ Zs' R b', loopO (stB (δ := δ) L0 (L0.length : Int) due (s : Int)) ((Zs.flatten.length : Int) + 2 * (s : Int), ((Zs.flatten.length : Int), Zs.flatten ++ Ts.flatten)) = some (.inl (b', ((Zs'.flatten.length : Int), Zs'.flatten ++ R.flatten))) ∧ Full (fun x y => c x y < 0) (2 * s) Zs' ∧ Ch (fun x y => c x y < 0) s R ∧ (Zs'.flatten ++ R.flatten).Perm L0 ∧ R.flatten.length < 2 * s
  | k, Zs, Ts, hk, hF, hT, hp => by
    have hl := hp.length_eq
    have hlen := hl
    rw [List.length_append] at hlen
    have hmem : ∀ y ∈ Zs.flatten ++ Ts.flatten, V y := fun y hy => hV y (hp.mem_iff.1 hy)
    by_cases h2 : 2 * s ≤ Ts.flatten.length
    · -- two blocks
      match Ts, hT, k with
      | [], _, _ => simp at h2; omega
      | [x], hT, _ => have := hT.2.1; simp at h2; omega
      | x :: y :: r, hT, 0 => simp at hk
      | x :: y :: r, hT, k + 1 =>
        have lx := hT.1
        have hy : y.length = s ∧ Srt (fun x y => c x y < 0) y ∧ Ch (fun x y => c x y < 0) s r := by
          cases r with
          | nil =>
            have h1 := hT.2.2
            refine ⟨?_, h1.2.2, trivial⟩
            have := h1.2.1
            simp at h2
            omega
          | cons z r => exact hT.2.2
        have lfl : (x :: y :: r).flatten.length = x.length + (y.length + r.flatten.length) := by rw [List.flatten_cons, List.flatten_cons, List.length_append, List.length_append]
        have hd : Zs.flatten ++ (x :: y :: r).flatten = Zs.flatten ++ x ++ y ++ r.flatten := by simp
        obtain ⟨Z, q1, q2, q3⟩ := sm_spec hc W 200 Zs.flatten x y r.flatten (by omega) (by rintro rfl; simp at lx; omega) (by rintro rfl; have := hy.1; simp at this; omega) (by rw [← hd, hl]; omega) (by rw [← hd]; exact hmem) hT.2.1 hy.2.1 (a := (Zs.flatten.length : Int)) (m := (Zs.flatten.length : Int) + (s : Int)) (b := (Zs.flatten.length : Int) + 2 * (s : Int)) rfl (by omega) (by omega)
        have q1' : slices_symMergeCmpFunc_int (Zs.flatten ++ x ++ y ++ r.flatten, ((Zs.flatten.length : Int), ((Zs.flatten.length : Int) + (s : Int), ((Zs.flatten.length : Int) + 2 * (s : Int), due)))) = some (Zs.flatten ++ Z ++ r.flatten) := q1
        have lZ : Z.length = 2 * s := by rw [q2.length_eq, List.length_append]; omega
        have hfl : (Zs ++ [Z]).flatten = Zs.flatten ++ Z := by simp
        have hstep : stB (δ := δ) L0 (L0.length : Int) due (s : Int) ((Zs.flatten.length : Int) + 2 * (s : Int), ((Zs.flatten.length : Int), Zs.flatten ++ (x :: y :: r).flatten)) = some (.inl (((Zs ++ [Z]).flatten.length : Int) + 2 * (s : Int), (((Zs ++ [Z]).flatten.length : Int), (Zs ++ [Z]).flatten ++ r.flatten))) := by
          have e1 : ((Zs ++ [Z]).flatten.length : Int) = (Zs.flatten.length : Int) + 2 * (s : Int) := by rw [hfl, List.length_append]; omega
          have hll : (Zs.flatten ++ x ++ y ++ r.flatten).length = L0.length := by rw [← hd]; exact hl
          have e2 : IntKind.wrap .i64 (2 * (s : Int)) = 2 * (s : Int) := wrap_i64' (by omega)
          rw [e1, hfl, hd]
          unfold stB
          simp (disch := (first | omega | (simp only [List.length_append, List.length_cons, List.length_nil, List.nil_append, List.length_take, List.length_drop]; omega))) only [↓bindO_some, ↓bindO_none, ↓joinO_inl, ↓joinO_inr, ↓joinO_none, ↓outO_some, ↓outO_none, ↓cond_true, ↓cond_false, ↓cond_and, ↓cond_or, ↓cond_not, ↓cond_ite, ↓if_pos, ↓if_neg, ↓if_true, ↓if_false, List.take_length, Nat.le_refl, Bool.not_true, Bool.not_false, if_pos, if_neg, wrap_i64', e2, q1', hll]
        obtain ⟨Zs', R, b', r1, r2, r3, r4, r5⟩ := st_pass L0 hL hV s hs hs2 k (Zs ++ [Z]) r (by simp at hk; omega) (fun w hw => by
          rcases List.mem_append.1 hw with g | g
          · exact hF w g
          · rw [List.mem_singleton.1 g]; exact ⟨lZ, q3⟩) hy.2.2 (by
          rw [hfl]
          refine List.Perm.trans ?_ hp
          rw [hd, List.append_assoc Zs.flatten x y]
          exact List.Perm.append_right _ (List.Perm.append_left _ q2))
        exact ⟨Zs', R, b', by rw [loopO_eq, hstep]; exact r1, r2, r3, r4, r5⟩
    · refine ⟨Zs, Ts, (Zs.flatten.length : Int) + 2 * (s : Int), ?_, hF, hT, hp, by omega⟩
      rw [loopO_eq]
      have hstep : stB (δ := δ) L0 (L0.length : Int) due (s : Int) ((Zs.flatten.length : Int) + 2 * (s : Int), ((Zs.flatten.length : Int), Zs.flatten ++ Ts.flatten)) = some (.inr (.inl ((Zs.flatten.length : Int) + 2 * (s : Int), ((Zs.flatten.length : Int), Zs.flatten ++ Ts.flatten)))) := by
        unfold stB
        simp (disch := (first | omega | (simp only [List.length_append, List.length_cons, List.length_nil, List.nil_append, List.length_take, List.length_drop]; omega))) only [↓bindO_some, ↓bindO_none, ↓joinO_inl, ↓joinO_inr, ↓joinO_none, ↓outO_some, ↓outO_none, ↓cond_true, ↓cond_false, ↓cond_and, ↓cond_or, ↓cond_not, ↓cond_ite, ↓if_pos, ↓if_neg, ↓if_true, ↓if_false, List.take_length, Nat.le_refl, Bool.not_true, Bool.not_false, if_pos, if_neg]
      rw [hstep]
theorem st_outer (L0 : List Int) (hL : L0.length ≤ 200) (hV : ∀ y ∈ L0, V y) : ∀ (k s : Nat) (Ls : List (List Int)) (v14 v15 : Int), L0.length - s ≤ k → 0 < s → s ≤ 400 → Ch (fun x y => c x y < 0) s Ls → Ls.flatten.Perm L0 →
    ∃ Z, loopO (stC L0 (L0.length : Int) due) ((s : Int), (v14, (v15, Ls.flatten))) = some Z ∧ Z.Perm L0 ∧ Srt (fun x y => c x y < 0) Z
  | k, s, Ls, v14, v15, hk, hs, hs2, hC, hp => by
    by_cases hlt : s < L0.length
    · cases k with
      | zero => omega
      | succ k =>
        obtain ⟨Zs', R, b', q1, q2, q3, q4, q5⟩ := st_pass hc W (δ := (Int × (Int × (Int × List Int))) ⊕ List Int) L0 hL hV s hs hs2 Ls.length [] Ls (Nat.le_refl _) (fun x hx => by cases hx) hC (by simpa using hp)
        have hl := q4.length_eq
        have hlen := hl
        rw [List.length_append] at hlen
        have e0 : IntKind.wrap .i64 (2 * (s : Int)) = 2 * (s : Int) := wrap_i64' (by omega)
        have e1 : IntKind.wrap .i64 ((s : Int) * 2) = ((2 * s : Nat) : Int) := by rw [wrap_i64' (by omega)]; omega
        have q1' : loopO (stB (δ := (Int × (Int × (Int × List Int))) ⊕ List Int) L0 (L0.length : Int) due (s : Int)) (2 * (s : Int), ((0 : Int), Ls.flatten)) = some (.inl (b', ((Zs'.flatten.length : Int), Zs'.flatten ++ R.flatten))) := by
          have := q1
          simp only [List.flatten_nil, List.length_nil, List.nil_append] at this
          rw [show ((0 : Nat) : Int) + 2 * (s : Int) = 2 * (s : Int) by omega] at this
          exact this
        have hmem : ∀ y ∈ Zs'.flatten ++ R.flatten, V y := fun y hy => hV y (q4.mem_iff.1 hy)
        -- what is left
        have rest : ∃ Ls', Ch (fun x y => c x y < 0) (2 * s) Ls' ∧ Ls'.flatten.Perm L0 ∧ stC L0 (L0.length : Int) due ((s : Int), (v14, (v15, Ls.flatten))) = some (.inl (((2 * s : Nat) : Int), (b', ((Zs'.flatten.length : Int), Ls'.flatten)))) := by
          by_cases hm : s < R.flatten.length
          · match R, q3, q5, hm with
            | [], _, _, hm => simp at hm
            | [x], q3, _, hm => have := q3.2.1; simp at hm; omega
            | x :: y :: z :: r, q3, q5, hm =>
              have := q3.1
              have := q3.2.2.1
              rw [List.flatten_cons, List.flatten_cons, List.length_append, List.length_append] at q5
              omega
            | [x, y], q3, q5, hm =>
              have lx := q3.1
              have hy := q3.2.2
              have lfl : [x, y].flatten.length = x.length + y.length := by simp
              have hd : Zs'.flatten ++ [x, y].flatten = Zs'.flatten ++ x ++ y ++ [] := by simp
              obtain ⟨Z, p1, p2, p3⟩ := sm_spec hc W 200 Zs'.flatten x y [] (by omega) (by rintro rfl; simp at lx; omega) (by rintro rfl; have := hy.1; simp at this) (by rw [← hd, hl]; omega) (by rw [← hd]; exact hmem) q3.2.1 hy.2.2 (a := (Zs'.flatten.length : Int)) (m := (Zs'.flatten.length : Int) + (s : Int)) (b := (L0.length : Int)) rfl (by omega) (by omega)
              have p1' : slices_symMergeCmpFunc_int (Zs'.flatten ++ [x, y].flatten, ((Zs'.flatten.length : Int), ((Zs'.flatten.length : Int) + (s : Int), ((L0.length : Int), due)))) = some (Zs'.flatten ++ Z) := by
                rw [hd, ← List.append_nil (Zs'.flatten ++ Z)]; exact p1
              have lZ : Z.length = x.length + y.length := by rw [p2.length_eq, List.length_append]
              have hy0 := hy.1
              have hfl : (Zs' ++ [Z]).flatten = Zs'.flatten ++ Z := by simp
              refine ⟨Zs' ++ [Z], full_ch (by omega) q2 (by omega) (by omega) p3, ?_, ?_⟩
              · rw [hfl]
                refine List.Perm.trans ?_ q4
                rw [show [x, y].flatten = x ++ y by simp]
                exact List.Perm.append_left _ p2
              · unfold stC
                simp (disch := (first | omega | (simp only [List.length_append, List.length_cons, List.length_nil, List.nil_append, List.length_take, List.length_drop]; omega))) only [↓bindO_some, ↓bindO_none, ↓joinO_inl, ↓joinO_inr, ↓joinO_none, ↓outO_some, ↓outO_none, ↓cond_true, ↓cond_false, ↓cond_and, ↓cond_or, ↓cond_not, ↓cond_ite, ↓if_pos, ↓if_neg, ↓if_true, ↓if_false, List.take_length, Nat.le_refl, Bool.not_true, Bool.not_false, if_pos]
                rw [e0]
                refine joinO_eq q1' ?_
                simp (disch := (first | omega | (simp only [List.length_append, List.length_cons, List.length_nil, List.nil_append, List.length_take, List.length_drop]; omega))) only [↓bindO_some, ↓bindO_none, ↓joinO_inl, ↓joinO_inr, ↓joinO_none, ↓outO_some, ↓outO_none, ↓cond_true, ↓cond_false, ↓cond_and, ↓cond_or, ↓cond_not, ↓cond_ite, ↓if_pos, ↓if_neg, ↓if_true, ↓if_false, List.take_length, Nat.le_refl, Bool.not_true, Bool.not_false, if_pos, wrap_i64', e1, p1', hl, hfl]
          · have hR : Srt (fun x y => c x y < 0) R.flatten := ch_one hs q3 (by omega)
            by_cases h0 : R.flatten = []
            · refine ⟨Zs', full_ch0 (by omega) q2, by rw [h0, List.append_nil] at q4; exact q4, ?_⟩
              have l0 : R.flatten.length = 0 := by rw [h0]; rfl
              unfold stC
              simp (disch := (first | omega | (simp only [List.length_append, List.length_cons, List.length_nil, List.nil_append, List.length_take, List.length_drop]; omega))) only [↓bindO_some, ↓bindO_none, ↓joinO_inl, ↓joinO_inr, ↓joinO_none, ↓outO_some, ↓outO_none, ↓cond_true, ↓cond_false, ↓cond_and, ↓cond_or, ↓cond_not, ↓cond_ite, ↓if_pos, ↓if_neg, ↓if_true, ↓if_false, List.take_length, Nat.le_refl, Bool.not_true, Bool.not_false, if_pos]
              rw [e0]
              refine joinO_eq q1' ?_
              simp (disch := (first | omega | (simp only [List.length_append, List.length_cons, List.length_nil, List.nil_append, List.length_take, List.length_drop]; omega))) only [↓bindO_some, ↓bindO_none, ↓joinO_inl, ↓joinO_inr, ↓joinO_none, ↓outO_some, ↓outO_none, ↓cond_true, ↓cond_false, ↓cond_and, ↓cond_or, ↓cond_not, ↓cond_ite, ↓if_pos, ↓if_neg, ↓if_true, ↓if_false, List.take_length, Nat.le_refl, Bool.not_true, Bool.not_false, if_neg, wrap_i64', e1, h0, List.append_nil]
            · have lR : 0 < R.flatten.length := List.length_pos_iff.2 h0
              refine ⟨Zs' ++ [R.flatten], full_ch (by omega) q2 lR (by omega) hR, by simpa using q4, ?_⟩
              unfold stC
              simp (disch := (first | omega | (simp only [List.length_append, List.length_cons, List.length_nil, List.nil_append, List.length_take, List.length_drop]; omega))) only [↓bindO_some, ↓bindO_none, ↓joinO_inl, ↓joinO_inr, ↓joinO_none, ↓outO_some, ↓outO_none, ↓cond_true, ↓cond_false, ↓cond_and, ↓cond_or, ↓cond_not, ↓cond_ite, ↓if_pos, ↓if_neg, ↓if_true, ↓if_false, List.take_length, Nat.le_refl, Bool.not_true, Bool.not_false, if_pos]
              rw [e0]
              refine joinO_eq q1' ?_
              have hfl : (Zs' ++ [R.flatten]).flatten = Zs'.flatten ++ R.flatten := by simp
              simp (disch := (first | omega | (simp only [List.length_append, List.length_cons, List.length_nil, List.nil_append, List.length_take, List.length_drop]; omega))) only [↓bindO_some, ↓bindO_none, ↓joinO_inl, ↓joinO_inr, ↓joinO_none, ↓outO_some, ↓outO_none, ↓cond_true, ↓cond_false, ↓cond_and, ↓cond_or, ↓cond_not, ↓cond_ite, ↓if_pos, ↓if_neg, ↓if_true, ↓if_false, List.take_length, Nat.le_refl, Bool.not_true, Bool.not_false, if_neg, wrap_i64', e1, hfl]
        obtain ⟨Ls', p1, p2, p3⟩ := rest
        obtain ⟨Z, r1, r2, r3⟩ := st_outer L0 hL hV k (2 * s) Ls' b' (Zs'.flatten.length : Int) (by omega) (by omega) (by omega) p1 p2
        exact ⟨Z, by rw [loopO_eq, p3]; exact r1, r2, r3⟩
    · refine ⟨Ls.flatten, ?_, hp, ch_one hs hC (by have := hp.length_eq; omega)⟩
      rw [loopO_eq]
      have hstep : stC L0 (L0.length : Int) due ((s : Int), (v14, (v15, Ls.flatten))) = some (.inr Ls.flatten) := by
        unfold stC
        simp (disch := (first | omega | (simp only [List.length_append, List.length_cons, List.length_nil, List.nil_append, List.length_take, List.length_drop]; omega))) only [↓bindO_some, ↓bindO_none, ↓joinO_inl, ↓joinO_inr, ↓joinO_none, ↓outO_some, ↓outO_none, ↓cond_true, ↓cond_false, ↓cond_and, ↓cond_or, ↓cond_not, ↓cond_ite, ↓if_pos, ↓if_neg, ↓if_true, ↓if_false, List.take_length, Nat.le_refl, Bool.not_true, Bool.not_false, if_neg]
      rw [hstep]
theorem sort_spec (L : List Int) (hL : L.length ≤ 200) (hV : ∀ y ∈ L, V y) : ∃ Z, slices_SortStableFunc___int_int (L, due) = some Z ∧ Z.Perm L ∧ Srt (fun x y => c x y < 0) Z := by
  unfold slices_SortStableFunc___int_int
  simp (disch := (first | omega | (simp only [List.length_append, List.length_cons, List.length_nil, List.nil_append, List.length_take, List.length_drop]; omega))) only [↓bindO_some, ↓bindO_none, ↓joinO_inl, ↓joinO_inr, ↓joinO_none, ↓outO_some, ↓outO_none, ↓cond_true, ↓cond_false, ↓cond_and, ↓cond_or, ↓cond_not, ↓cond_ite, ↓if_pos, ↓if_neg, ↓if_true, ↓if_false, List.take_length, Nat.le_refl, Bool.not_true, Bool.not_false, if_pos]
  rw [st_eq]
  obtain ⟨Ls, T, b', q1, q2, q3, q4⟩ := st_first hc W (δ := List Int) L hL hV L.length [] L (Nat.le_refl _) (fun x hx => by cases hx) (by simp)
  have q1' : loopO (stA (δ := List Int) L (L.length : Int) due) ((20 : Int), ((0 : Int), L)) = some (.inl (b', ((Ls.flatten.length : Int), Ls.flatten ++ T))) := q1
  have hl := q3.length_eq
  obtain ⟨Z, r1, r2, r3⟩ := ins_any hc W Ls.flatten T (by rw [hl]; omega) (fun y hy => hV y (q3.mem_iff.1 hy))
  rw [hl] at r1
  have lZ := r2.length_eq
  have hch : ∃ Ls2, Ch (fun x y => c x y < 0) 20 Ls2 ∧ Ls2.flatten = Ls.flatten ++ Z := by
    by_cases h0 : Z = []
    · exact ⟨Ls, full_ch0 (by omega) q2, by rw [h0, List.append_nil]⟩
    · exact ⟨Ls ++ [Z], full_ch (by omega) q2 (List.length_pos_iff.2 h0) (by omega) r3, by simp⟩
  obtain ⟨Ls2, h1, h2⟩ := hch
  have hp2 : Ls2.flatten.Perm L := by rw [h2]; exact (List.Perm.append_left _ r2).trans q3
  obtain ⟨Z2, s1, s2, s3⟩ := st_outer hc W L hL hV L.length 20 Ls2 b' (Ls.flatten.length : Int) (by omega) (by omega) (by omega) h1 hp2
  refine ⟨Z2, ?_, s2, s3⟩
  have key : (joinO (loopO (stA (δ := List Int) L (L.length : Int) due) ((20 : Int), ((0 : Int), L))) fun x =>
      bindO (slices_insertionSortCmpFunc_int (x.2.2, (x.2.1, ((L.length : Int), due)))) fun x12 => loopO (stC L (L.length : Int) due) ((20 : Int), (x.1, (x.2.1, x12)))) = some Z2 := by
    rw [q1', joinO_inl]
    simp only
    rw [r1, bindO_some, ← h2]
    exact s1
  rw [q1'] at key ⊢
  rw [joinO_inl] at key ⊢
  simp (disch := (first | omega | (simp only [List.length_append, List.length_cons, List.length_nil, List.nil_append, List.length_take, List.length_drop]; omega))) only [↓bindO_some, ↓bindO_none, ↓joinO_inl, ↓joinO_inr, ↓joinO_none, ↓outO_some, ↓outO_none, ↓cond_true, ↓cond_false, ↓cond_and, ↓cond_or, ↓cond_not, ↓cond_ite, ↓if_pos, ↓if_neg, ↓if_true, ↓if_false, List.take_length, Nat.le_refl, Bool.not_true, Bool.not_false, if_pos, hl]
  rw [show ∀ o : Option (List Int), (bindO o fun x3 => some x3) = o from fun o => by cases o <;> rfl]
  exact key
end
end Go.Proofs.Ytkhdpjlpahammaa
