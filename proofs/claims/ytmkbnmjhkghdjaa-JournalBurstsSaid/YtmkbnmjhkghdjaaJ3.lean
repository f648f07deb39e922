/- Chapter 20, plain: records as bytes, the program's way. -/
import Derived.Test.YtmkbnmjhkghdjaaJ2
set_option linter.unusedVariables false
set_option linter.unusedSimpArgs false
namespace Go.Proofs.Ytmkbnmjhkghdjaa
open Go.RowKit

theorem encode_j (n k : Int) (d : List Int) (hn : n ≤ 9223372036854775807) (hk : 0 ≤ k ∧ k ≤ 255) (hd : Bytes d) : journal_Encode (n, (k, d)) = some (encS n k d) := by
  unfold journal_Encode encS
  simp only [bindO_some, bindO_none, joinO_inl, joinO_inr, joinO_none, outO_some, outO_none, cond_ite, List.take_length, Nat.le_refl, if_true, Nat.mul_one, Int.mul_one, cond_true, cond_false]
  by_cases h1 : n < 0
  · rw [if_pos h1, if_pos h1]
  by_cases h2 : n > 1048575
  · rw [if_neg h1, if_pos (by omega), if_neg h1, if_pos h2]
  by_cases h3 : (d.length : Int) > 4096
  · rw [if_neg h1, if_neg (by omega), if_pos h3, if_neg h1, if_neg h2, if_pos h3]
  rw [if_neg h1, if_neg (by omega), if_neg h3, if_neg h1, if_neg h2, if_neg h3]
  have ws : ∀ z : Int, 0 ≤ z → z ≤ 4294967295 → IntKind.wrap .u32 z = z := fun z a b => by rw [wr_u32]; omega
  rw [ws k (by omega) (by omega), ws n (by omega) (by omega), ws (d.length : Int) (by omega) (by omega), wrap_i64' (n := 65535 - (d.length : Int)) (by omega), ws (65535 - (d.length : Int)) (by omega) (by omega)]
  refine joinO_eq (a := headB n k d.length) ?_ ?_
  · refine joinO_eq (a := headB n k d.length) ?_ rfl
    rw [← flds5 n k d.length hk]
    obtain ⟨L, hL⟩ : ∃ L : List (Int × Int), L = [(167, 1), (k, 1), (n, 4), ((d.length : Int), 2), (65535 - (d.length : Int), 2)] := ⟨_, rfl⟩
    have hlen : L.length = 5 := by rw [hL]; rfl
    have hsz : ∀ (i : Nat) (hi : i < L.length), 1 ≤ L[i].2 ∧ L[i].2 ≤ 4 := fun i hi => by
      subst hL
      rcases (by omega : i = 0 ∨ i = 1 ∨ i = 2 ∨ i = 3 ∨ i = 4) with rfl | rfl | rfl | rfl | rfl <;> exact ⟨by simp, by simp⟩
    have hfl : (flds L).length ≤ 40 := by rw [hL, flds5 n k d.length hk, headB_length]; omega
    rw [← hL]
    refine floop L [] Sum.inl rfl ?_ ?_ hfl
    · intro i c hi hc
      have hz := hsz i hi
      have hc40 : c.length ≤ 40 := hc
      simp only [bindO_some, bindO_none, joinO_inl, joinO_inr, joinO_none, outO_some, outO_none, cond_ite, List.take_length, Nat.le_refl, if_true, Nat.mul_one, Int.mul_one, cond_true, cond_false]
      rw [if_pos (by omega)]
      refine joinO_eq (a := c ++ be L[i].2.toNat L[i].1) ?_ ?_
      · rw [if_pos (by omega), get_nat hi]
        refine wloop L[i].1 L[i].2.toNat c Sum.inl ?_ ?_ ?_
        · rw [wrap_i64' (by omega)]
          congr 1; omega
        · intro j b hj hb
          simp only [bindO_some, bindO_none, joinO_inl, joinO_inr, joinO_none, outO_some, outO_none, cond_ite, List.take_length, Nat.le_refl, if_true, Nat.mul_one, Int.mul_one, cond_true, cond_false]
          rw [if_pos (by omega), wrap_i64' (n := 8 * (j : Int)) (by omega), if_pos (by omega), fdiv256 _ j (by omega), wr_u8, if_pos (by rw [List.length_append]; simp; omega), wrap_i64' (by omega)]
        · intro b
          simp only [bindO_some, bindO_none, joinO_inl, joinO_inr, joinO_none, outO_some, outO_none, cond_ite, List.take_length, Nat.le_refl, if_true, Nat.mul_one, Int.mul_one, cond_true, cond_false]
          rw [if_neg (by omega)]
      · rw [wrap_i64' (by omega)]
    · intro c
      simp only [bindO_some, bindO_none, joinO_inl, joinO_inr, joinO_none, outO_some, outO_none, cond_ite, List.take_length, Nat.le_refl, if_true, Nat.mul_one, Int.mul_one, cond_true, cond_false]
      rw [if_neg (by omega)]
  · rw [show headB n k (d.length : Int) ++ d = preB n k d from rfl, if_pos (by rw [preB_length]; omega)]
    refine bindO_eq (check_j _ (preB_bytes hk hd) (by rw [preB_length]; omega)) ?_
    have hcb := crc_bnd (preB n k d)
    generalize hP : preB n k d = B at *
    have hB : B.length ≤ 5000 := by rw [← hP, preB_length]; omega
    refine joinO_eq (a := B ++ be 4 (crc B)) ?_ ?_
    · refine joinO_eq (a := B ++ be 4 (crc B)) ?_ rfl
      have e1 : flds [(crc B, 4)] = be 4 (crc B) := by simp only [flds, List.flatMap_cons, List.flatMap_nil, List.append_nil]; rfl
      rw [← e1]
      refine floop [(crc B, 4)] B Sum.inl rfl ?_ ?_ ?_
      · intro i c hi hc
        have hi1 : i < 1 := hi
        have hi0 : i = 0 := by omega
        subst hi0
        simp only [bindO_some, bindO_none, joinO_inl, joinO_inr, joinO_none, outO_some, outO_none, cond_ite, List.take_length, Nat.le_refl, if_true, Nat.mul_one, Int.mul_one, cond_true, cond_false]
        rw [if_pos (by omega)]
        refine joinO_eq (a := c ++ be 4 (crc B)) ?_ ?_
        · rw [if_pos (by omega)]
          refine bindO_eq rfl ?_
          refine wloop (crc B) 4 c Sum.inl rfl ?_ ?_
          · intro j b hj hb
            have hj4 : j < 4 := hj
            simp only [bindO_some, bindO_none, joinO_inl, joinO_inr, joinO_none, outO_some, outO_none, cond_ite, List.take_length, Nat.le_refl, if_true, Nat.mul_one, Int.mul_one, cond_true, cond_false]
            rw [if_pos (by omega), wrap_i64' (n := 8 * (j : Int)) (by omega), if_pos (by omega), fdiv256 _ j (by omega), wr_u8, if_pos (by rw [List.length_append]; simp; omega), wrap_i64' (by omega)]
          · intro b
            simp only [bindO_some, bindO_none, joinO_inl, joinO_inr, joinO_none, outO_some, outO_none, cond_ite, List.take_length, Nat.le_refl, if_true, Nat.mul_one, Int.mul_one, cond_true, cond_false]
            rw [if_neg (by omega)]
        · rw [wrap_i64' (by omega)]; rfl
      · intro c
        simp only [bindO_some, bindO_none, joinO_inl, joinO_inr, joinO_none, outO_some, outO_none, cond_ite, List.take_length, Nat.le_refl, if_true, Nat.mul_one, Int.mul_one, cond_true, cond_false]
        rw [if_neg (by simp)]
      · rw [e1, be_length]; omega
    · rw [encB, hP]
end Go.Proofs.Ytmkbnmjhkghdjaa
