import Derived.Test.YtkhdpjlpahammaaS19p
set_option linter.unusedVariables false
set_option linter.unusedSimpArgs false
set_option maxRecDepth 100000
set_option maxHeartbeats 2000000
namespace Go.Proofs.Ytkhdpjlpahammaa
open Go.RowKit
theorem rreceive_j (fates : List FtT) (W : List PcT) (sent lost cnow now : Int) (h1 : cnow ≤ now) (h2 : now ≤ 1099511627776) (hl : W.length ≤ 200) (hW : W.Pairwise pkey) :
    ∃ L : List PcT, L.Perm (W.filter fun p => decide (atP p ≤ now)) ∧ L.Pairwise (fun p q => ¬ plt q p) ∧ rReceive (now, (fates, (W.map dgP, (cnow, (sent, lost))))) = some (L.map dgP, (0, (fates, ((W.filter (fun p => !decide (atP p ≤ now))).map dgP, (now, (sent, lost)))))) := by
  rw [rr_eq]
  have lW : (W.map dgP).length = W.length := List.length_map ..
  have hf0 : ∃ v, rfirst (fates, (W.map dgP, (now, (sent, lost)))) = some v ∧ ((W = [] ∧ v = -1) ∨ ∃ b : Nat, v = (b : Int) ∧ FstAt (W.map dgP) b) := by
    rcases rfirst_j fates (W.map dgP) now sent lost (by omega) with ⟨k1, k2⟩ | ⟨b, k1, k2⟩
    · exact ⟨_, k2, .inl ⟨List.map_eq_nil_iff.1 k1, rfl⟩⟩
    · exact ⟨_, k1, .inr ⟨b, rfl, k2⟩⟩
  obtain ⟨v, hv, hv2⟩ := hf0
  simp (disch := (first | omega | (simp only [List.length_append, List.length_cons, List.length_nil, List.nil_append, List.length_take, List.length_drop]; omega))) only [↓bindO_some, ↓bindO_none, ↓joinO_inl, ↓joinO_inr, ↓joinO_none, ↓outO_some, ↓outO_none, ↓cond_true, ↓cond_false, ↓cond_and, ↓cond_or, ↓cond_not, ↓cond_ite, ↓if_pos, ↓if_neg, ↓if_true, ↓if_false, List.take_length, Nat.le_refl, Bool.not_true, Bool.not_false, if_pos, if_neg, hv]
  refine loopO_postG (P := fun o => ∃ L : List PcT, L.Perm (W.filter fun p => decide (atP p ≤ now)) ∧ L.Pairwise (fun p q => ¬ plt q p) ∧ o = some (L.map dgP, (0, (fates, ((W.filter (fun p => !decide (atP p ≤ now))).map dgP, (now, (sent, lost)))))))
    (fun x : Int × (List DgT × (List FtT × (List DgT × (Int × (Int × Int))))) => ∃ O R, RInv W now O R ∧ x.2 = (O.map dgP, (fates, (R.map dgP, (now, (sent, lost))))) ∧ ((R = [] ∧ x.1 = -1) ∨ ∃ b : Nat, x.1 = (b : Int) ∧ FstAt (R.map dgP) b))
    (fun x => x.2.2.2.1.length) (fun x hx => ?_) ⟨[], W, rinv0 hW, rfl, hv2⟩
  obtain ⟨x1, x2⟩ := x
  obtain ⟨O, R, hI, rfl, hb⟩ := hx
  have lOR : O.length + R.length = W.length := by rw [← hI.pm.length_eq, List.length_append]
  have lO : (O.map dgP).length = O.length := List.length_map ..
  have lR : (R.map dgP).length = R.length := List.length_map ..
  simp only at hb ⊢
  have fin : (∀ q ∈ R, now < atP q) → ∃ L : List PcT, L.Perm (W.filter fun p => decide (atP p ≤ now)) ∧ L.Pairwise (fun p q => ¬ plt q p) ∧ (some (O.map dgP, ((0 : Int), (fates, (R.map dgP, (now, (sent, lost)))))) : Option (List DgT × (Int × (List FtT × (List DgT × (Int × (Int × Int))))))) = some (L.map dgP, (0, (fates, ((W.filter (fun p => !decide (atP p ≤ now))).map dgP, (now, (sent, lost)))))) := fun hq => by
    obtain ⟨g1, g2⟩ := hI.done hq
    exact ⟨O, g2, hI.so, by rw [← g1]⟩
  rcases hb with ⟨rfl, rfl⟩ | ⟨b, rfl, hB⟩
  · unfold rrB
    simp (disch := (first | omega | (simp only [List.length_append, List.length_cons, List.length_nil, List.nil_append, List.length_take, List.length_drop]; omega))) only [↓bindO_some, ↓bindO_none, ↓joinO_inl, ↓joinO_inr, ↓joinO_none, ↓outO_some, ↓outO_none, ↓cond_true, ↓cond_false, ↓cond_and, ↓cond_or, ↓cond_not, ↓cond_ite, ↓if_pos, ↓if_neg, ↓if_true, ↓if_false, List.take_length, Nat.le_refl, Bool.not_true, Bool.not_false, if_pos, if_neg]
    refine .stop ?_
    simp (disch := (first | omega | (simp only [List.length_append, List.length_cons, List.length_nil, List.nil_append, List.length_take, List.length_drop]; omega))) only [↓bindO_some, ↓bindO_none, ↓joinO_inl, ↓joinO_inr, ↓joinO_none, ↓outO_some, ↓outO_none, ↓cond_true, ↓cond_false, ↓cond_and, ↓cond_or, ↓cond_not, ↓cond_ite, ↓if_pos, ↓if_neg, ↓if_true, ↓if_false, List.take_length, Nat.le_refl, Bool.not_true, Bool.not_false, if_pos, if_neg]
    exact fin fun q hq => by cases hq
  · have hbR : b < R.length := by have := hB.1; omega
    obtain ⟨p, hp⟩ : ∃ p, R.getD b dP = p := ⟨_, rfl⟩
    have hcut := cut_at dP R hbR
    rw [hp] at hcut
    obtain ⟨f, hf, hfb⟩ := get_at dDg hB.1
    have hfp : f = dgP p := by rw [← hf, ← hp, getD_get _ hB.1, getD_get _ hbR, List.getElem_map]
    have hat : f.2.2.2.1 = atP p := by rw [hfp]; rfl
    have hd1 : ∀ q ∈ R.take b, atP p < atP q := fun q hq => by
      obtain ⟨k, k1, k2, rfl⟩ := mem_take_getD dP hq
      have := hB.2.1 k k1
      rw [dg_getD _ _ hbR, dg_getD _ _ k2, hp] at this
      exact this
    have hd2 : ∀ q ∈ R.drop (b + 1), atP p ≤ atP q := fun q hq => by
      obtain ⟨k, k1, k2, rfl⟩ := mem_drop_getD dP hq
      have := hB.2.2 k (by omega) (by omega)
      rw [dg_getD _ _ hbR, dg_getD _ _ k2, hp] at this
      exact this
    by_cases hle : atP p ≤ now
    · have hI2 : RInv W now (O ++ [p]) (R.take b ++ R.drop (b + 1)) := by
        rw [hcut] at hI
        exact hI.step hd1 hd2 hle
      have hM : List.take b (R.map dgP) ++ List.drop (b + 1) (R.map dgP) = (R.take b ++ R.drop (b + 1)).map dgP := by rw [List.map_append, List.map_take, List.map_drop]
      have hf1 : ∃ v, rfirst (fates, (List.take b (R.map dgP) ++ List.drop (b + 1) (R.map dgP), (now, (sent, lost)))) = some v ∧ ((R.take b ++ R.drop (b + 1) = [] ∧ v = -1) ∨ ∃ c : Nat, v = (c : Int) ∧ FstAt ((R.take b ++ R.drop (b + 1)).map dgP) c) := by
        rw [hM]
        rcases rfirst_j fates ((R.take b ++ R.drop (b + 1)).map dgP) now sent lost (by simp only [List.length_map, List.length_append, List.length_take, List.length_drop]; omega) with ⟨k1, k2⟩ | ⟨c, k1, k2⟩
        · exact ⟨_, k2, .inl ⟨List.map_eq_nil_iff.1 k1, rfl⟩⟩
        · exact ⟨_, k1, .inr ⟨c, rfl, k2⟩⟩
      obtain ⟨u, hu, hu2⟩ := hf1
      have hw : IntKind.wrap .i64 ((b : Int) + 1) = ((b + 1 : Nat) : Int) := wrap_i64' (by omega)
      have htd : List.take ((R.map dgP).length - (b + 1)) (List.drop (b + 1) (R.map dgP)) = List.drop (b + 1) (R.map dgP) := List.take_of_length_le (by rw [List.length_drop]; exact Nat.le_refl _)
      have hc2 : ((b + 1 : Nat) : Int) ≤ ((R.map dgP).length : Int) := by omega
      have hle' : f.2.2.2.1 ≤ now := by omega
      generalize hMR : R.map dgP = M at *
      generalize hMO : O.map dgP = N at *
      unfold rrB
      simp (disch := (first | omega | (simp only [List.length_append, List.length_cons, List.length_nil, List.nil_append, List.length_take, List.length_drop]; omega))) only [↓bindO_some, ↓bindO_none, ↓joinO_inl, ↓joinO_inr, ↓joinO_none, ↓outO_some, ↓outO_none, ↓cond_true, ↓cond_false, ↓cond_and, ↓cond_or, ↓cond_not, ↓cond_ite, ↓if_pos, ↓if_neg, ↓if_true, ↓if_false, List.take_length, Nat.le_refl, Bool.not_true, Bool.not_false, if_pos, if_neg, ↓hfb, hw, Int.toNat_natCast, htd, hu]
      refine .next ⟨O ++ [p], R.take b ++ R.drop (b + 1), hI2, ?_, hu2⟩ ?_
      · simp only
        rw [List.map_append, hMO, ← hM, ← hMR, show List.map dgP [p] = [f] by rw [hfp]; rfl]
      · simp only [List.length_append, List.length_take, List.length_drop]
        omega
    · have hle' : ¬ f.2.2.2.1 ≤ now := by omega
      unfold rrB
      simp (disch := (first | omega | (simp only [List.length_append, List.length_cons, List.length_nil, List.nil_append, List.length_take, List.length_drop]; omega))) only [↓bindO_some, ↓bindO_none, ↓joinO_inl, ↓joinO_inr, ↓joinO_none, ↓outO_some, ↓outO_none, ↓cond_true, ↓cond_false, ↓cond_and, ↓cond_or, ↓cond_not, ↓cond_ite, ↓if_pos, ↓if_neg, ↓if_true, ↓if_false, List.take_length, Nat.le_refl, Bool.not_true, Bool.not_false, if_pos, if_neg, ↓hfb]
      refine .stop ?_
      simp (disch := (first | omega | (simp only [List.length_append, List.length_cons, List.length_nil, List.nil_append, List.length_take, List.length_drop]; omega))) only [↓bindO_some, ↓bindO_none, ↓joinO_inl, ↓joinO_inr, ↓joinO_none, ↓outO_some, ↓outO_none, ↓cond_true, ↓cond_false, ↓cond_and, ↓cond_or, ↓cond_not, ↓cond_ite, ↓if_pos, ↓if_neg, ↓if_true, ↓if_false, List.take_length, Nat.le_refl, Bool.not_true, Bool.not_false, if_pos, if_neg]
      refine fin fun q hq => ?_
      rw [hcut] at hq
      rcases List.mem_append.1 hq with g | g
      · have := hd1 q g; omega
      · rcases List.mem_cons.1 g with rfl | g
        · omega
        · have := hd2 q g; omega
theorem sorted_one {W A B : List PcT} (hW : W.Pairwise pkey) {f : PcT → Bool} (hA : A.Perm (W.filter f)) (hB : B.Perm (W.filter f)) (sA : A.Pairwise fun p q => ¬ plt q p) (sB : B.Pairwise fun p q => ¬ plt q p) : A = B := by
  refine List.Perm.eq_of_pairwise (fun p q hp hq h k => ?_) sA sB (hA.trans hB.symm)
  have hp := (List.mem_filter.1 (hA.mem_iff.1 hp)).1
  have hq := (List.mem_filter.1 (hB.mem_iff.1 hq)).1
  rw [plt_iff] at h k
  by_cases e : p = q
  · exact e
  exfalso
  have key : pkey p q ∨ pkey q p := by
    obtain ⟨i, hi, rfl⟩ := List.getElem_of_mem hp
    obtain ⟨j, hj, rfl⟩ := List.getElem_of_mem hq
    rcases Nat.lt_trichotomy i j with g | g | g
    · exact .inl (List.pairwise_iff_getElem.1 hW i j hi hj g)
    · subst g; exact absurd rfl e
    · exact .inr (List.pairwise_iff_getElem.1 hW j i hj hi g)
  have h1 : ¬ atP q < atP p := fun g => h (.inl g)
  have h2 : ¬ atP p < atP q := fun g => k (.inl g)
  have h3 : atP p = atP q := by omega
  rcases key with g | g
  · exact k (.inr ⟨h3, g⟩)
  · exact h (.inr ⟨h3.symm, g⟩)
theorem both_receive (fates : List FtT) (W : List PcT) (sent lost cnow now : Int) (h1 : cnow ≤ now) (h2 : now ≤ 1099511627776) (hl : W.length ≤ 200) (hW : W.Pairwise pkey) (ho : ∀ p ∈ W, OkP p) :
    ∃ L : List PcT, L.length ≤ 200 ∧ carrier_Carrier_Receive (now, (true, (fates, (W, (sent, (lost, cnow)))))) = some (L.map dgP, (0, (true, (fates, (W.filter (fun p => !decide (atP p ≤ now)), (sent, (lost, now))))))) ∧ rReceive (now, (fates, (W.map dgP, (cnow, (sent, lost))))) = some (L.map dgP, (0, (fates, ((W.filter (fun p => !decide (atP p ≤ now))).map dgP, (now, (sent, lost)))))) := by
  obtain ⟨L, a1, a2, a3⟩ := receive_j fates W sent lost cnow now h1 h2 hl ho
  obtain ⟨M, b1, b2, b3⟩ := rreceive_j fates W sent lost cnow now h1 h2 hl hW
  have := sorted_one hW a1 b1 a2 b2
  subst this
  refine ⟨L, ?_, a3, b3⟩
  rw [a1.length_eq]
  exact Nat.le_trans (List.length_filter_le _ _) hl
end Go.Proofs.Ytkhdpjlpahammaa
