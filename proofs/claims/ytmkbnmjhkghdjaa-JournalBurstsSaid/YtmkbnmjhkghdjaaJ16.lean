/- Chapter 20, plain: JournalBits. -/
import Derived.Test.YtmkbnmjhkghdjaaJ15
set_option linter.unusedVariables false
set_option linter.unusedSimpArgs false
namespace Go.Proofs.Ytmkbnmjhkghdjaa
open Go.RowKit

theorem set_getD (l : List Int) (p : Nat) (x : Int) (i : Nat) (hi : i < l.length) : (l.set p x).getD i 0 = if p = i then x else l.getD i 0 := by
  rw [List.getD_eq_getElem?_getD, List.getElem?_set, List.getD_eq_getElem?_getD]
  by_cases h : p = i
  · subst h; rw [if_pos rfl, if_pos rfl, if_pos hi]; rfl
  · rw [if_neg h, if_neg h]
theorem pow_bit (t j : Nat) : (2 ^ t).testBit j = decide (t = j) := Nat.testBit_two_pow ..
set_option maxHeartbeats 1000000 in
theorem bits_true (a : Recs × Int) (hw : WfIs [(.tmp 0 false [(.dat (.list (.pair (.int .u8) (.list (.int .u8)))))]), (.tmp 1 false [(.dat (.int .u16))])] a) : dialtonelaw20_JournalBits a = some true := by
  obtain ⟨l0, bit⟩ := a
  have hl0 : WfU (.list (.pair (.int .u8) (.list (.int .u8)))) l0 := hw.1.1
  have hbit : 0 ≤ bit ∧ bit ≤ 65535 := wfU16 hw.2.1.1
  unfold dialtonelaw20_JournalBits
  obtain ⟨l, hf, hl⟩ := few_any l0 hl0
  refine bindO_eq hf ?_
  refine bindO_eq (write_ok l hl) ?_
  simp only [bindO_some, bindO_none, joinO_inl, joinO_inr, joinO_none, outO_some, outO_none, cond_ite, List.take_length, Nat.le_refl, if_true, Nat.mul_one, Int.mul_one, cond_true, cond_false, Bool.not_true]
  by_cases hemp : (l.length : Int) = 0
  · rw [if_pos hemp]
  rw [if_neg hemp]
  have hsum := sumL_few hl.2
  have hl20 := hl.1
  have hlen := encAll_length l 0
  have hbytes := encAll_bytes l 0 fun r hr => (hl.2 r hr).ok
  have hpos : 14 ≤ sumL l := by
    cases l with
    | nil => exact (hemp rfl).elim
    | cons r l => rw [sumL]; omega
  rw [hlen, wrap_i64' (n := 8 * ((sumL l : Nat) : Int)) (by omega), if_pos (by omega), wrap_i64' (n := bit) (by omega), Int.tmod_eq_emod_of_nonneg hbit.1]
  obtain ⟨c, hc⟩ : ∃ c : Nat, (c : Int) = bit % (8 * ((sumL l : Nat) : Int)) := ⟨(bit % (8 * ((sumL l : Nat) : Int))).toNat, by have := Int.emod_nonneg bit (show (8 * ((sumL l : Nat) : Int)) ≠ 0 by omega); omega⟩
  have hcl : c < 8 * sumL l := by have := Int.emod_lt_of_pos bit (show 0 < (8 * ((sumL l : Nat) : Int)) by omega); omega
  rw [← hc]
  have hd8 : Int.tdiv (c : Int) 8 = ((c / 8 : Nat) : Int) := by rw [Int.tdiv_eq_ediv_of_nonneg (by omega)]; omega
  have hm8 : Int.tmod (c : Int) 8 = ((c % 8 : Nat) : Int) := by rw [Int.tmod_eq_emod_of_nonneg (by omega)]; omega
  rw [hd8, hm8, wrap_i64' (n := ((c / 8 : Nat) : Int)) (by omega), if_pos (by omega), if_pos (by omega)]
  obtain ⟨P, hP⟩ : ∃ P, P = c / 8 := ⟨_, rfl⟩
  obtain ⟨t, ht⟩ : ∃ t, t = c % 8 := ⟨_, rfl⟩
  have hPl : P < sumL l := by omega
  have ht8 : t < 8 := by omega
  rw [← hP, ← ht]
  have hPE : P < (encAll 0 l).length := by omega
  have hx := hbytes.getD P
  rw [get_D (0 : Int) hPE, bindO_some, if_pos (by omega), bindO_some, if_pos (by omega), u8_flip hx ht8]
  -- the record
  obtain ⟨s1, s2⟩ := cnt_spec l P
  have hec := endC_le l P
  have hq : cnt l P < l.length := by
    rcases Nat.lt_or_ge (cnt l P) l.length with h | h
    · exact h
    · rw [List.take_of_length_le h] at s1; omega
  have hend := s2 hq
  have hss := sumL_take_succ l hq
  generalize hQ : cnt l P = q at *
  refine joinO_eq (a := (q : Int)) (loopO_from (fun j => (j : Int)) q rfl ?_ ?_) ?_
  · intro j hj
    have hm := sumL_mono l (show j + 1 ≤ q by omega)
    rw [if_pos (by rw [endsL_length]; omega), Int.toNat_natCast, endsL_get l (show j < l.length by omega), bindO_some, if_pos (by omega), wrap_i64' (by omega)]
    rfl
  · rw [if_pos (by rw [endsL_length]; omega), Int.toNat_natCast, endsL_get l hq, bindO_some, if_neg (by omega)]
  -- what is scanned
  have hr : Rec2 l[q] := hl.2 _ (List.getElem_mem hq)
  obtain ⟨e, hee, hscan⟩ : ∃ e : Int, (e = 5 ∨ e = 11) ∧ loopO (scanB ((encAll 0 l).set P ((((((encAll 0 l).getD P 0).toNat ^^^ 2 ^ t : Nat))) : Int))) ([], 0) = some (l.take q, ((sumL (l.take q) : Int), e)) := by
    have hM : ∀ i, i < sumL l → ((encAll 0 l).set P ((((((encAll 0 l).getD P 0).toNat ^^^ 2 ^ t : Nat))) : Int)).getD i 0 = (((((encAll 0 l).getD i 0).toNat ^^^ (if i = P then 2 ^ t else 0) : Nat)) : Int) := fun i hi => by
      rw [set_getD _ _ _ _ (by omega)]
      by_cases h : P = i
      · subst h; rw [if_pos rfl, if_pos rfl]
      · rw [if_neg h, if_neg (fun e => h e.symm), Nat.xor_zero]
        have := hbytes.getD i
        omega
    have hnz : (2 : Nat) ^ t ≠ 0 := Nat.ne_of_gt (Nat.two_pow_pos t)
    have h256 : 2 ^ t < 256 := Nat.pow_lt_pow_right (a := 2) (by omega) (show t < 8 from ht8)
    have key : ∀ e : Int, e ≠ 0 → (∀ D rest : List Int, D.length = 14 + l[q].2.length → (∀ i, i < D.length → D.getD i 0 = (((((encB q l[q].1 l[q].2).getD i 0).toNat ^^^ (if sumL (l.take q) + i = P then 2 ^ t else 0) : Nat)) : Int)) → ∃ z sz, oneS (D ++ rest) q = (z, (sz, e))) → loopO (scanB ((encAll 0 l).set P ((((((encAll 0 l).getD P 0).toNat ^^^ 2 ^ t : Nat))) : Int))) ([], 0) = some (l.take q, ((sumL (l.take q) : Int), e)) := fun e he hD =>
      damage hl hq (fun i => if i = P then 2 ^ t else 0) (by rw [List.length_set]; omega) hM (fun i hi => if_neg (by omega)) he hD
    obtain ⟨p, hp⟩ : ∃ p, P = sumL (l.take q) + p := ⟨P - sumL (l.take q), by omega⟩
    have hN : ∀ i, (if sumL (l.take q) + i = P then 2 ^ t else 0) = if i = p then 2 ^ t else 0 := fun i => by
      by_cases h : i = p
      · rw [if_pos (by omega), if_pos h]
      · rw [if_neg (by omega), if_neg h]
    simp only [hN] at key
    generalize hkd : l[q] = r at *
    obtain ⟨k, d⟩ := r
    simp only at key hss
    by_cases hA : p < 10 ∧ p ≠ 1
    · refine ⟨5, .inl rfl, key 5 (by decide) fun D rest hDl hD => ⟨_, _, dmg_head (by omega) hr.ok hDl hD hA.1 hA.2 (by rw [if_pos rfl]; exact hnz) (fun i hi => if_neg hi) rest⟩⟩
    · by_cases hB : p < 10 + d.length
      · refine ⟨11, .inr rfl, key 11 (by decide) fun D rest hDl hD => ⟨_, _, dmg_data (p := p) (t := t) (by omega) hr.ok hDl hD (fun i => by split <;> omega) (fun i h1 h2 => if_neg (by omega)) (fun i h1 h2 => if_neg (by omega)) hB (fun i hi => if_neg (by omega)) (by rw [if_pos rfl, pow_bit]; simp) (fun j hj => by rw [if_pos rfl, pow_bit]; simp; omega) (fun i h1 h2 => by rw [if_neg (by omega)]; exact Nat.two_pow_pos _) rest⟩⟩
      · refine ⟨11, .inr rfl, key 11 (by decide) fun D rest hDl hD => ⟨_, _, dmg_tail (p := p) (by omega) hr.ok hDl hD (fun i hi => if_neg (by omega)) (by omega) (by omega) (by rw [if_pos rfl]; exact hnz) rest⟩⟩
  have hsl : ((encAll 0 l).set P ((((((encAll 0 l).getD P 0).toNat ^^^ 2 ^ t : Nat))) : Int)).length = sumL l := by rw [List.length_set, hlen]
  have hsb : Bytes ((encAll 0 l).set P ((((((encAll 0 l).getD P 0).toNat ^^^ 2 ^ t : Nat))) : Int)) := fun x hx' => by
    rcases List.mem_or_eq_of_mem_set hx' with h | h
    · exact hbytes x h
    · have := Nat.xor_lt_two_pow (n := 8) (x := ((encAll 0 l).getD P 0).toNat) (y := 2 ^ t) (by omega) (Nat.pow_lt_pow_right (a := 2) (by omega) (show t < 8 from ht8))
      omega
  simp only [Int.toNat_natCast]
  rw [if_pos (by omega), List.take_of_length_le (by omega)]
  refine bindO_eq (scan_j _ hsb (by omega) hscan) ?_
  refine joinO_eq (a := (sumL (l.take q) : Int)) ?_ ?_
  · by_cases hq0 : q = 0
    · subst hq0
      rw [if_neg (by omega)]; rfl
    · rw [if_pos (by omega), wrap_i64' (by omega), if_pos (by rw [endsL_length]; omega), show ((q : Int) - 1).toNat = q - 1 from by omega, endsL_get l (show q - 1 < l.length by omega), bindO_some, show q - 1 + 1 = q from by omega]
  · simp only
    rw [if_pos trivial, if_pos (by omega)]
    refine bindO_eq (same_refl _ (by rw [List.length_take]; omega)) ?_
    rcases hee with rfl | rfl <;> rfl
end Go.Proofs.Ytmkbnmjhkghdjaa
