/- Chapter 20, plain: JournalBursts, the law. -/
import Derived.Test.YtmkbnmjhkghdjaaJ17
set_option linter.unusedVariables false
set_option linter.unusedSimpArgs false
namespace Go.Proofs.Ytmkbnmjhkghdjaa
open Go.RowKit

theorem mskB_zero (c : Nat → Bool) (s size off : Nat) : ∀ (k i : Nat), (∀ j, j < k → c j = true → s + j < size → off + (s + j) / 8 ≠ i) → mskB c s size off k i = 0
  | 0, i, _ => rfl
  | k + 1, i, h => by
    rw [mskB, if_neg (fun hh => h k (by omega) hh.1.1 hh.1.2 hh.2)]
    exact mskB_zero c s size off k i fun j hj => h j (by omega)
/-- The bytes so far. -/
def curB (c : Nat → Bool) (s size off : Nat) (b : List Int) : Nat → List Int
  | 0 => b
  | k + 1 => if c k = true ∧ s + k < size then (curB c s size off b k).set (off + (s + k) / 8) (((((curB c s size off b k).getD (off + (s + k) / 8) 0).toNat ^^^ 2 ^ ((s + k) % 8) : Nat)) : Int) else curB c s size off b k
def chgB (c : Nat → Bool) (s size : Nat) : Nat → Bool
  | 0 => false
  | k + 1 => if c k = true ∧ s + k < size then true else chgB c s size k
theorem curB_length (c : Nat → Bool) (s size off : Nat) (b : List Int) : ∀ k, (curB c s size off b k).length = b.length
  | 0 => rfl
  | k + 1 => by
    rw [curB]
    split
    · rw [List.length_set, curB_length c s size off b k]
    · exact curB_length c s size off b k
theorem curB_getD (c : Nat → Bool) (s size off : Nat) (b : List Int) (hb : Bytes b) : ∀ (k i : Nat), i < b.length → (curB c s size off b k).getD i 0 = ((((b.getD i 0).toNat ^^^ mskB c s size off k i : Nat)) : Int)
  | 0, i, _ => by
    have := hb.getD i
    rw [curB, mskB, Nat.xor_zero]; omega
  | k + 1, i, hi => by
    have ih := curB_getD c s size off b hb k
    rw [curB, mskB]
    by_cases h : c k = true ∧ s + k < size
    · rw [if_pos h, set_getD _ _ _ _ (by rw [curB_length]; exact hi)]
      by_cases h2 : off + (s + k) / 8 = i
      · rw [if_pos h2, if_pos ⟨h, h2⟩, h2, ih i hi, Int.toNat_natCast, Nat.xor_assoc]
      · rw [if_neg h2, if_neg (fun hh => h2 hh.2), ih i hi]
    · rw [if_neg h, if_neg (fun hh => h hh.1), ih i hi]
theorem curB_bytes (c : Nat → Bool) (s size off : Nat) (b : List Int) (hb : Bytes b) (k : Nat) : Bytes (curB c s size off b k) := fun x hx => by
  obtain ⟨i, hi, rfl⟩ := List.getElem_of_mem hx
  rw [curB_length] at hi
  rw [← getD_get 0 (by rw [curB_length]; exact hi), curB_getD c s size off b hb k i hi]
  have h1 := mskB_lt c s size off k i
  have h2 := hb.getD i
  have := Nat.xor_lt_two_pow (n := 8) (x := (b.getD i 0).toNat) (y := mskB c s size off k i) (by omega) (by omega)
  omega
theorem chgB_iff (c : Nat → Bool) (s size : Nat) : ∀ k, chgB c s size k = true ↔ ∃ j, j < k ∧ c j = true ∧ s + j < size
  | 0 => by simp [chgB]
  | k + 1 => by
    rw [chgB]
    split
    · rename_i h
      exact iff_of_true rfl ⟨k, by omega, h⟩
    · rename_i h
      rw [chgB_iff c s size k]
      constructor
      · rintro ⟨j, j1, j2⟩; exact ⟨j, by omega, j2⟩
      · rintro ⟨j, j1, j2⟩
        have : j ≠ k := fun e => by subst e; exact h j2
        exact ⟨j, by omega, j2⟩
theorem curB_same (c : Nat → Bool) (s size off : Nat) (b : List Int) : ∀ k, chgB c s size k = false → curB c s size off b k = b
  | 0, _ => rfl
  | k + 1, h => by
    rw [chgB] at h
    rw [curB]
    split at h
    · cases h
    · rename_i hh; rw [if_neg hh]; exact curB_same c s size off b k h
set_option maxHeartbeats 2000000 in
theorem bursts_true (a : Recs × (Int × (Int × Int))) (hw : WfIs [(.tmp 0 false [(.dat (.list (.pair (.int .u8) (.list (.int .u8)))))]), (.tmp 1 false [(.dat (.int .u16))]), (.tmp 2 false [(.dat (.int .u16))]), (.tmp 3 false [(.dat (.int .u32))])] a) : dialtonelaw20_JournalBursts a = some true := by
  obtain ⟨l0, which, place, change⟩ := a
  have hl0 : WfU (.list (.pair (.int .u8) (.list (.int .u8)))) l0 := hw.1.1
  have hwhich : 0 ≤ which ∧ which ≤ 65535 := wfU16 hw.2.1.1
  have hplace : 0 ≤ place ∧ place ≤ 65535 := wfU16 hw.2.2.1.1
  have hchange : 0 ≤ change ∧ change ≤ 4294967295 := wfU32 hw.2.2.2.1.1
  unfold dialtonelaw20_JournalBursts
  obtain ⟨l, hf, hl⟩ := few_any l0 hl0
  refine bindO_eq hf ?_
  refine bindO_eq (write_ok l hl) ?_
  simp only [bindO_some, bindO_none, joinO_inl, joinO_inr, joinO_none, outO_some, outO_none, cond_ite, List.take_length, Nat.le_refl, if_true, Nat.mul_one, Int.mul_one, cond_true, cond_false, Bool.not_true]
  by_cases hemp : (l.length : Int) = 0
  · rw [if_pos hemp]
  have hsum := sumL_few hl.2
  have hl20 := hl.1
  have hlen := encAll_length l 0
  have hbytes := encAll_bytes l 0 fun r hr => (hl.2 r hr).ok
  rw [if_neg hemp, if_pos hemp, wrap_i64' (n := which) (by omega), Int.tmod_eq_emod_of_nonneg hwhich.1]
  obtain ⟨q, hq0⟩ : ∃ q : Nat, (q : Int) = which % (l.length : Int) := ⟨(which % (l.length : Int)).toNat, by have := Int.emod_nonneg which hemp; omega⟩
  have hq : q < l.length := by have := Int.emod_lt_of_pos which (show 0 < (l.length : Int) by omega); omega
  rw [← hq0, if_pos (by omega), get_nat hq, bindO_some]
  have hr : Rec2 l[q] := hl.2 _ (List.getElem_mem hq)
  have hss := sumL_take_succ l hq
  have hle := sumL_mono l (show q + 1 ≤ l.length by omega)
  rw [List.take_length] at hle
  have hdm := @damage l hl q hq
  generalize hkd : l[q] = r at *
  obtain ⟨k, d⟩ := r
  simp only at hss hdm ⊢
  by_cases hd0 : (d.length : Int) = 0
  · rw [if_pos hd0]
  have hd200 : d.length ≤ 200 := hr.2.2
  rw [if_neg hd0, if_pos hemp, if_pos (by omega), bindO_some, wrap_i64' (n := 8 * (d.length : Int)) (by omega), if_pos (by rw [endsL_length]; omega), Int.toNat_natCast, endsL_get l hq, bindO_some, if_pos (by omega), bindO_some]
  obtain ⟨off, hoff⟩ : ∃ off, off = sumL (l.take q) + 10 := ⟨_, rfl⟩
  rw [wrap_i64' (n := ((sumL (l.take (q + 1)) : Nat) : Int) - 4) (by omega), wrap_i64' (n := ((sumL (l.take (q + 1)) : Nat) : Int) - 4 - (d.length : Int)) (by omega), show ((sumL (l.take (q + 1)) : Nat) : Int) - 4 - (d.length : Int) = ((off : Nat) : Int) from by omega, if_pos (by omega)]
  obtain ⟨s, hs0⟩ : ∃ s : Nat, (s : Int) = place % (8 * (d.length : Int)) := ⟨(place % (8 * (d.length : Int))).toNat, by have := Int.emod_nonneg place (show (8 * (d.length : Int)) ≠ 0 by omega); omega⟩
  have hs : s < 8 * d.length := by have := Int.emod_lt_of_pos place (show 0 < (8 * (d.length : Int)) by omega); omega
  rw [wrap_i64' (n := place) (by omega), Int.tmod_eq_emod_of_nonneg hplace.1, ← hs0]
  obtain ⟨c, hc⟩ : ∃ c : Nat → Bool, c = fun j => change.toNat.testBit j := ⟨_, rfl⟩
  refine joinO_eq (a := (chgB c s (8 * d.length) 32, curB c s (8 * d.length) off (encAll 0 l) 32)) (loopO_from (fun j => ((j : Int), (chgB c s (8 * d.length) j, curB c s (8 * d.length) off (encAll 0 l) j))) 32 rfl ?_ ?_) ?_
  · intro j hj
    have hcl := curB_length c s (8 * d.length) off (encAll 0 l) j
    simp only
    rw [if_pos (by omega), if_pos (by omega), wrap_i64' (n := (s : Int) + (j : Int)) (by omega), if_pos (by omega), wrap_i64' (n := (j : Int) + 1) (by omega)]
    by_cases hcj : change.toNat.testBit j = true
    · rw [if_pos ((u32_bit hchange hj).2 hcj)]
      by_cases hsj : s + j < 8 * d.length
      · rw [if_pos (by omega)]
        have ed : Int.tdiv ((s : Int) + (j : Int)) 8 = (((s + j) / 8 : Nat) : Int) := by rw [Int.tdiv_eq_ediv_of_nonneg (by omega)]; omega
        have em : Int.tmod ((s : Int) + (j : Int)) 8 = (((s + j) % 8 : Nat) : Int) := by rw [Int.tmod_eq_emod_of_nonneg (by omega)]; omega
        rw [ed, em, wrap_i64' (n := (((s + j) / 8 : Nat) : Int)) (by omega), wrap_i64' (n := (off : Int) + (((s + j) / 8 : Nat) : Int)) (by omega), show (off : Int) + (((s + j) / 8 : Nat) : Int) = ((off + (s + j) / 8 : Nat) : Int) from by omega]
        have hpos : off + (s + j) / 8 < (curB c s (8 * d.length) off (encAll 0 l) j).length := by omega
        rw [if_pos (by omega), get_D (0 : Int) hpos, bindO_some, if_pos (by omega), if_pos (by omega), bindO_some, u8_flip ((curB_bytes c s (8 * d.length) off (encAll 0 l) hbytes j).getD _) (by omega), Int.toNat_natCast]
        have h2 : c j = true ∧ s + j < 8 * d.length := ⟨by rw [hc]; exact hcj, hsj⟩
        rw [chgB, curB, if_pos h2, if_pos h2]
        rfl
      · rw [if_neg (by omega), chgB, curB, if_neg (fun h => hsj h.2), if_neg (fun h => hsj h.2)]
        rfl
    · have h2 : ¬ (c j = true ∧ s + j < 8 * d.length) := fun h => hcj (by rw [hc] at h; exact h.1)
      rw [if_neg (fun h => hcj ((u32_bit hchange hj).1 h)), chgB, curB, if_neg h2, if_neg h2]
      rfl
  · rw [if_neg (by omega)]
  · simp only
    have hcl := curB_length c s (8 * d.length) off (encAll 0 l) 32
    have hcb := curB_bytes c s (8 * d.length) off (encAll 0 l) hbytes 32
    rw [if_pos (by omega), List.take_of_length_le (by omega)]
    cases hch : chgB c s (8 * d.length) 32 with
    | false =>
      rw [curB_same _ _ _ _ _ _ hch]
      have hscan := scan_cut l (encAll 0 l) [] 0 (sumL l) (fun r hr => (hl.2 r hr).ok) (by rw [List.drop_zero, ← hlen]; exact (List.take_length).symm) (Nat.zero_le _) (by rw [encAll_length]; exact Nat.le_refl _) (by simp; omega)
      rw [(cnt_full l).1, (cnt_full l).2, List.take_length, if_pos rfl] at hscan
      refine bindO_eq (scan_j _ hbytes (by omega) hscan) ?_
      rfl
    | true =>
      obtain ⟨j0, j1, j2, j3⟩ := (chgB_iff _ _ _ _).1 hch
      obtain ⟨M, hM⟩ : ∃ M, M = mskB c s (8 * d.length) off 32 := ⟨_, rfl⟩
      have hMb : ∀ i b, b < 8 → ((M i).testBit b = true ↔ ∃ j, j < 32 ∧ c j = true ∧ s + j < 8 * d.length ∧ off + (s + j) / 8 = i ∧ (s + j) % 8 = b) := fun i b hb => by rw [hM]; exact mskB_bit c s (8 * d.length) off 32 i b hb
      have hM256 : ∀ i, M i < 256 := fun i => by rw [hM]; exact mskB_lt _ _ _ _ _ _
      have hMz : ∀ i, (i < off ∨ off + d.length ≤ i) → M i = 0 := fun i hi => by rw [hM]; exact mskB_zero _ _ _ _ _ _ fun j _ _ _ => by omega
      have hscan : loopO (scanB (curB c s (8 * d.length) off (encAll 0 l) 32)) ([], 0) = some (l.take q, ((sumL (l.take q) : Int), 11)) := by
        refine hdm M (by rw [hcl, hlen]) (fun i hi => by rw [curB_getD c s _ off _ hbytes 32 i (by omega), hM]) (fun i hi => hMz i (by omega)) (by decide) fun D rest hDl hD => ⟨(0, []), 0, ?_⟩
        -- the first that differs
        have hnz : M (off + (s + j0) / 8) ≠ 0 := fun h => by
          have := (hMb (off + (s + j0) / 8) ((s + j0) % 8) (by omega)).2 ⟨j0, j1, j2, j3, rfl, rfl⟩
          rw [h, Nat.zero_testBit] at this
          cases this
        obtain ⟨p, hp1, hp2⟩ := least (p := fun i => M (sumL (l.take q) + i) ≠ 0) ⟨10 + (s + j0) / 8, by rw [show sumL (l.take q) + (10 + (s + j0) / 8) = off + (s + j0) / 8 from by omega]; exact hnz⟩
        obtain ⟨t, ht, hlow⟩ := least_bit hp1
        have ht8 : t < 8 := by
          rcases Nat.lt_or_ge t 8 with h | h
          · exact h
          · rw [Nat.testBit_lt_two_pow (Nat.lt_of_lt_of_le (hM256 _) (Nat.pow_le_pow_right (n := 2) (by omega) h))] at ht
            cases ht
        obtain ⟨jp, jp1, jp2, jp3, jp4, jp5⟩ := (hMb _ t ht8).1 ht
        refine dmg_data (N := fun i => M (sumL (l.take q) + i)) (p := p) (t := t) (by omega) hr.ok hDl hD (fun i => hM256 _) (fun i h1 h2 => hMz _ (by omega)) (fun i h1 h2 => hMz _ (by omega)) (by omega) (fun i hi => Decidable.not_not.1 (hp2 i hi)) ht hlow (fun i h1 h2 => ?_) rest
        refine Nat.lt_pow_two_of_testBit _ fun b hb => ?_
        cases hbb : (M (sumL (l.take q) + i)).testBit b with
        | false => rfl
        | true =>
          have hb8 : b < 8 := by
            rcases Nat.lt_or_ge b 8 with h | h
            · exact h
            · rw [Nat.testBit_lt_two_pow (Nat.lt_of_lt_of_le (hM256 _) (Nat.pow_le_pow_right (n := 2) (by omega) h))] at hbb
              cases hbb
          obtain ⟨ji, ji1, ji2, ji3, ji4, ji5⟩ := (hMb _ b hb8).1 hbb
          omega
      refine bindO_eq (scan_j _ hcb (by omega) hscan) ?_
      simp only [Bool.not_true, cond_false]
      rw [if_pos trivial, if_pos (by rw [endsL_length]; omega), bindO_some, if_pos (by omega), bindO_some, wrap_i64' (n := ((sumL (l.take (q + 1)) : Nat) : Int) - 14) (by omega), wrap_i64' (by simp only; omega), if_pos (by simp only; omega), if_pos (by omega)]
      refine bindO_eq (same_refl _ (by rw [List.length_take]; omega)) ?_
      rfl
end Go.Proofs.Ytmkbnmjhkghdjaa
