/- Chapter 20, plain: JournalCrashes. -/
import Derived.Test.YtmkbnmjhkghdjaaJ11
set_option linter.unusedVariables false
set_option linter.unusedSimpArgs false
namespace Go.Proofs.Ytmkbnmjhkghdjaa
open Go.RowKit

theorem sync_j (b : List Int) (s c : Int) (hb : b.length ≤ 900000) (hs : 0 ≤ s ∧ s ≤ (b.length : Int)) (hc : 0 ≤ c ∧ c ≤ 1048576) : journal_Sync (b, (s, c)) = some (b, ((b.length : Int), c)) := by
  unfold journal_Sync
  refine bindO_eq (valid_j b s c) ?_
  rw [decide_eq_true (by omega)]
  simp only [bindO_some, bindO_none, joinO_inl, joinO_inr, joinO_none, outO_some, outO_none, cond_ite, List.take_length, Nat.le_refl, if_true, Nat.mul_one, Int.mul_one, cond_true, cond_false, Bool.not_true]
  refine bindO_eq (joined_j b [] (by omega) (by simp)) ?_
  rw [List.append_nil]
theorem crash_j (b : List Int) (s c k : Int) (hb : b.length ≤ 900000) (hs : 0 ≤ s ∧ s ≤ (b.length : Int)) (hc : 0 ≤ c ∧ c ≤ 1048576) : ∃ n : Nat, s ≤ (n : Int) ∧ n ≤ b.length ∧ journal_Crash ((b, (s, c)), k) = some (b.take n) := by
  obtain ⟨n, hn⟩ : ∃ n : Nat, (n : Int) = minA (maxA s k) (b.length : Int) := ⟨(minA (maxA s k) (b.length : Int)).toNat, by unfold minA maxA; split <;> split <;> omega⟩
  have h1 : s ≤ (n : Int) ∧ n ≤ b.length := by
    unfold minA maxA at hn
    constructor
    · split at hn <;> split at hn <;> omega
    · split at hn <;> split at hn <;> omega
  refine ⟨n, h1.1, h1.2, ?_⟩
  unfold journal_Crash
  refine bindO_eq (valid_j b s c) ?_
  rw [decide_eq_true (by omega), ← hn]
  simp only [bindO_some, bindO_none, joinO_inl, joinO_inr, joinO_none, outO_some, outO_none, cond_ite, List.take_length, Nat.le_refl, if_true, Nat.mul_one, Int.mul_one, cond_true, cond_false, Bool.not_true, and_dec, Int.toNat_natCast]
  rw [if_pos (by omega)]
  refine bindO_eq (joined_j _ [] (by rw [List.length_take]; omega) (by simp)) ?_
  rw [List.append_nil]
theorem cnt_ge {l : Recs} {c j : Nat} (hj : j ≤ l.length) (h : sumL (l.take j) ≤ c) : j ≤ cnt l c := by
  rcases Nat.lt_or_ge (cnt l c) j with hlt | hge
  · have := (cnt_spec l c).2 (by omega)
    have := sumL_mono l (show cnt l c + 1 ≤ j by omega)
    omega
  · exact hge
theorem cnt_full (l : Recs) : cnt l (sumL l) = l.length ∧ endC l (sumL l) = sumL l := by
  have h1 : cnt l (sumL l) = l.length := Nat.le_antisymm (cnt_le _ _) (cnt_ge (Nat.le_refl _) (by rw [List.take_length]; exact Nat.le_refl _))
  refine ⟨h1, ?_⟩
  rw [← (cnt_spec l (sumL l)).1, h1, List.take_length]
theorem encAll_take (l : Recs) (j : Nat) : (encAll 0 l).take (sumL (l.take j)) = encAll 0 (l.take j) := by
  conv => lhs; rw [← List.take_append_drop j l]
  rw [encAll_append, List.take_append_of_le_length (by rw [encAll_length, List.take_append_drop]; exact Nat.le_refl _), List.take_of_length_le (by rw [encAll_length, List.take_append_drop]; exact Nat.le_refl _)]
abbrev ActU : U := .list (.pair (.int .u8) (.pair (.pair (.int .u8) (.list (.int .u8))) (.int .u16)))
set_option maxHeartbeats 1000000 in
theorem crashes_true (a : List (Int × ((Int × List Int) × Int))) (hw : WfIs [(.tmp 0 false [(.dat (.list (.pair (.int .u8) (.pair (.pair (.int .u8) (.list (.int .u8))) (.int .u16)))))])] a) : dialtonelaw20_JournalCrashes a = some true := by
  have ha : WfU ActU a := hw.1.1
  have hael : ∀ x ∈ a, (0 ≤ x.1 ∧ x.1 ≤ 255) ∧ ((0 ≤ x.2.1.1 ∧ x.2.1.1 ≤ 255) ∧ Bytes x.2.1.2) ∧ (0 ≤ x.2.2 ∧ x.2.2 ≤ 65535) := fun x hx => ⟨wfU8 (ha.2 x hx).1, ⟨wfU8 (ha.2 x hx).2.1.1, wfBytes (ha.2 x hx).2.1.2⟩, wfU16 (ha.2 x hx).2.2⟩
  unfold dialtonelaw20_JournalCrashes
  simp only [bindO_some, bindO_none, joinO_inl, joinO_inr, joinO_none, outO_some, outO_none, cond_ite, List.take_length, Nat.le_refl, if_true, Nat.mul_one, Int.mul_one, cond_true, cond_false]
  refine loopO_postG (fun x : Int × (Recs × (Int × (List Int × (Int × Int)))) => (0 ≤ x.1 ∧ x.1 ≤ 40 ∧ x.1 ≤ (a.length : Int)) ∧ ((x.2.1.length : Int) ≤ x.1 ∧ ∀ r ∈ x.2.1, Rec2 r) ∧ x.2.2.2.1 = encAll 0 x.2.1 ∧ x.2.2.2.2.2 = (x.2.1.length : Int) ∧ (0 ≤ x.2.2.2.2.1 ∧ x.2.2.2.2.1 ≤ (sumL x.2.1 : Int)) ∧ ∃ j : Nat, x.2.2.1 = (j : Int) ∧ j ≤ x.2.1.length ∧ (sumL (x.2.1.take j) : Int) ≤ x.2.2.2.2.1)
    (fun x => ((a.length : Int) - x.1).toNat) (fun o => o = some true) ?_ ⟨⟨by simp, by simp, by simp⟩, ⟨by simp, fun r hr => by cases hr⟩, rfl, rfl, ⟨by simp, by simp [sumL]⟩, 0, rfl, by simp, by simp [sumL]⟩
  rintro ⟨i, l, sn, bytes, sy, cn⟩ ⟨⟨i0, i1, i2⟩, ⟨hl, hok⟩, hby, hcn, ⟨hs0, hs1⟩, j, hj, hjl, hjs⟩
  simp only at i0 i1 i2 hl hok hby hcn hs0 hs1 hj hjl hjs ⊢
  subst hby hcn hj
  have hsum := sumL_few hok
  have hlen := encAll_length l 0
  have hlastJ : l.length ≤ 40 := by omega
  have hbytes := encAll_bytes l 0 fun r hr => (hok r hr).ok
  -- the end
  have fin : bindO (journal_Scan (encAll 0 l)) (fun x => if x.2.2 = 0 then if x.2.1 = (((encAll 0 l).length : Nat) : Int) then bindO (dialtoneref20_Same (l, x.1)) fun x44 => bif x44 then some true else some false else some false else some false) = some true := by
    have hscan := scan_cut l (encAll 0 l) [] 0 (sumL l) (fun r hr => (hok r hr).ok) (by rw [List.drop_zero, ← hlen]; exact (List.take_length).symm) (Nat.zero_le _) (by rw [encAll_length]; exact Nat.le_refl _) (by simp; omega)
    rw [(cnt_full l).1, (cnt_full l).2, List.take_length, if_pos rfl] at hscan
    simp only [List.nil_append, Nat.zero_add] at hscan
    refine bindO_eq (scan_j _ hbytes (by omega) hscan) ?_
    rw [if_pos rfl, if_pos (by simp only; omega)]
    refine bindO_eq (same_refl l (by omega)) ?_
    rfl
  by_cases hi : i < (a.length : Int)
  · by_cases h40 : i < 40
    · rw [if_pos hi, if_pos h40, if_pos ⟨i0, hi⟩, get_in i0 hi, bindO_some]
      have hx := hael _ (List.getElem_mem (l := a) (n := i.toNat) (by omega))
      generalize hX : a[i.toNat]'(by omega) = X at *
      obtain ⟨dk, ⟨k, d⟩, keep⟩ := X
      simp only at hx ⊢
      obtain ⟨hx1, ⟨hx2, hx3⟩, hx4⟩ := hx
      rw [Int.tmod_eq_emod_of_nonneg hx1.1, wrap_i64' (n := i + 1) (by omega)]
      by_cases c0 : dk % 4 = 0
      · rw [if_pos c0]
        refine PostS.bind _ (sync_j _ _ _ (by omega) (by omega) (by omega)) ?_
        refine PostS.next ⟨⟨by simp only; omega, by simp only; omega, by simp only; omega⟩, ⟨by simp only; omega, hok⟩, rfl, rfl, ⟨by simp only; omega, by simp only; omega⟩, l.length, rfl, Nat.le_refl _, by simp only [List.take_length]; omega⟩ (by simp only; omega)
      · rw [if_neg c0]
        by_cases c1 : dk % 4 = 1
        · rw [if_pos c1, if_pos ⟨i0, hi⟩, bindO_some, wrap_i64' (n := keep) (by omega)]
          obtain ⟨n, n1, n2, n3⟩ := crash_j (encAll 0 l) sy (l.length : Int) keep (by omega) (by omega) (by omega)
          refine PostS.bind _ n3 ?_
          have hscan := scan_cut l ((encAll 0 l).take n) [] 0 n (fun r hr => (hok r hr).ok) rfl (Nat.zero_le _) n2 (by simp; omega)
          simp only [List.nil_append, Nat.zero_add] at hscan
          refine PostS.bind _ (recover_j _ (hbytes.take n) (by rw [List.length_take]; omega) hscan) ?_
          have hc := cnt_le l n
          have hge : j ≤ cnt l n := cnt_ge hjl (by omega)
          have hcs := (cnt_spec l n).1
          have hce := endC_le l n
          have htl : (l.take (cnt l n)).length = cnt l n := by rw [List.length_take]; omega
          have hby : ((encAll 0 l).take n).take (endC l n) = encAll 0 (l.take (cnt l n)) := by
            rw [List.take_take, Nat.min_eq_left hce, ← hcs, encAll_take]
          simp only [Int.toNat_natCast, hby, htl]
          rw [if_neg (by omega), if_neg (by omega), if_pos (by omega), if_pos hc]
          refine PostS.bind _ (same_refl _ (by omega)) ?_
          simp only [bindO_some, bindO_none, joinO_inl, joinO_inr, joinO_none, outO_some, outO_none, cond_ite, List.take_length, Nat.le_refl, if_true, Nat.mul_one, Int.mul_one, cond_true, cond_false, Bool.not_true, ne_eq, not_true_eq_false, if_false, encAll_length, hcs]
          rw [if_pos (by omega), if_pos hc]
          refine PostS.next ⟨⟨by simp only; omega, by simp only; omega, by simp only; omega⟩, ⟨by simp only [htl]; omega, fun r hr => hok r (List.mem_of_mem_take hr)⟩, rfl, by simp only [htl], ⟨by simp only; omega, by simp only [hcs]; omega⟩, cnt l n, rfl, by simp only [htl]; omega, by simp only [List.take_take, Nat.min_self, hcs]; omega⟩ (by simp only; omega)
        · rw [if_neg c1, if_pos ⟨i0, hi⟩, bindO_some]
          simp only
          by_cases h200 : (d.length : Int) > 200
          · rw [if_pos h200]
            exact PostS.next ⟨⟨by simp only; omega, by simp only; omega, by simp only; omega⟩, ⟨by simp only; omega, hok⟩, rfl, rfl, ⟨hs0, hs1⟩, j, rfl, hjl, hjs⟩ (by simp only; omega)
          · have hr : Rec2 (k, d) := ⟨hx2, hx3, by simp only; omega⟩
            rw [if_neg h200, if_pos ⟨i0, hi⟩, bindO_some]
            refine PostS.bind _ (append_j _ _ _ k d (by omega) (by omega) (by omega) hr.ok) ?_
            simp only [ne_eq, not_true_eq_false, if_false]
            rw [if_pos ⟨i0, hi⟩, bindO_some, if_pos (by rw [List.length_append, List.length_singleton]; omega)]
            have hE : encAll 0 (l ++ [(k, d)]) = encAll 0 l ++ encB (l.length : Int) k d := by
              rw [encAll_append]; simp [encAll]
            have hS : sumL (l ++ [(k, d)]) = sumL l + (14 + d.length) := by rw [sumL_append]; simp [sumL]
            refine PostS.next ⟨⟨by simp only; omega, by simp only; omega, by simp only; omega⟩, ⟨by simp only [List.length_append, List.length_singleton]; omega, fun r hr' => ?_⟩, hE.symm, by simp only [List.length_append, List.length_singleton]; omega, ⟨hs0, by simp only [hS]; omega⟩, j, rfl, by simp only [List.length_append]; omega, by simp only [List.take_append_of_le_length hjl]; exact hjs⟩ (by simp only; omega)
            rcases List.mem_append.1 hr' with h | h
            · exact hok r h
            · rw [List.mem_singleton] at h; subst h; exact hr
    · rw [if_pos hi, if_neg h40]
      exact PostS.stop fin
  · rw [if_neg hi]
    exact PostS.stop fin
end Go.Proofs.Ytmkbnmjhkghdjaa
