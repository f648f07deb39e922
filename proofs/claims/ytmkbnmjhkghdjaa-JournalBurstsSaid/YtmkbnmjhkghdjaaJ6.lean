/- Chapter 20, plain: a record at the front of bytes. -/
import Derived.Test.YtmkbnmjhkghdjaaJ5
set_option linter.unusedVariables false
set_option linter.unusedSimpArgs false
namespace Go.Proofs.Ytmkbnmjhkghdjaa
open Go.RowKit

/-- How many bytes of data the head says. -/
def szB (b : List Int) : Nat := (256 * b.getD 6 0 + b.getD 7 0).toNat
open Classical in
/-- The record at the front: kind, data; its size; the error. -/
noncomputable def oneS (b : List Int) (n : Nat) : (Int × List Int) × (Int × Int) :=
  if n ≥ 1048576 ∨ Wrong b n then ((0, []), (0, 5)) else
  if b.length < 14 then ((0, []), (0, 6)) else
  if b.length < 14 + szB b then ((0, []), (0, 6)) else
  if be 4 (crc (b.take (10 + szB b))) = (b.drop (10 + szB b)).take 4 then ((b.getD 1 0, (b.drop 10).take (szB b)), (((14 + szB b : Nat) : Int), 0)) else ((0, []), (0, 11))
theorem szB_eq {b : List Int} (hb : Bytes b) : ((szB b : Nat) : Int) = 256 * b.getD 6 0 + b.getD 7 0 := by
  have := hb.getD 6
  have := hb.getD 7
  unfold szB; omega
theorem not_bad {b : List Int} {n : Int} (h : ¬ Wrong b n) {i : Nat} (hi : i < 10) : ¬ BadAt b n i := fun hb => h (.inr ⟨i, hi, hb⟩)
theorem head_of {b : List Int} {n : Int} (hb : Bytes b) (h : ¬ Wrong b n) (hl : 10 ≤ b.length) : b.take 10 = headB n (b.getD 1 0) (szB b) := by
  have hs := szB_eq hb
  have x6 := hb.getD 6
  have x7 := hb.getD 7
  have k : ∀ i, i < 6 → i ≠ 1 → b.getD i 0 = (wantL n).getD i 0 := fun i h1 h2 => Decidable.not_not.1 fun hh => not_bad h (show i < 10 by omega) ⟨by omega, .inl ⟨h1, h2, hh⟩⟩
  have k8 : b.getD 8 0 = 255 - b.getD 6 0 := Decidable.not_not.1 fun hh => not_bad h (show 8 < 10 by omega) ⟨by omega, .inr (.inl ⟨rfl, hh⟩)⟩
  have k9 : b.getD 9 0 = 255 - b.getD 7 0 := Decidable.not_not.1 fun hh => not_bad h (show 9 < 10 by omega) ⟨by omega, .inr (.inr ⟨rfl, hh⟩)⟩
  refine List.ext_getElem (by rw [headB_length, List.length_take]; omega) fun i h1 h2 => ?_
  rw [headB_length] at h2
  rw [List.getElem_take, ← getD_get 0 (by omega), ← getD_get 0 (by rw [headB_length]; exact h2)]
  have e2 : be 2 (szB b : Int) = [b.getD 6 0, b.getD 7 0] := by
    simp only [be, List.nil_append, List.cons_append]
    rw [hs]
    congr 1
    · omega
    · congr 1; omega
  have e3 : be 2 (65535 - (szB b : Int)) = [b.getD 8 0, b.getD 9 0] := by
    simp only [be, List.nil_append, List.cons_append]
    rw [hs, k8, k9]
    congr 1
    · omega
    · congr 1; omega
  unfold headB
  rw [e2, e3]
  have hw : ∀ i, i < 6 → i ≠ 1 → ([167, b.getD 1 0] ++ (be 4 n ++ ([b.getD 6 0, b.getD 7 0] ++ [b.getD 8 0, b.getD 9 0]))).getD i 0 = (wantL n).getD i 0 := fun i h1 h2 => by
    unfold wantL
    match i, h1, h2 with
    | 0, _, _ => rfl
    | 2, _, _ => rfl
    | 3, _, _ => rfl
    | 4, _, _ => rfl
    | 5, _, _ => rfl
  by_cases h6 : i < 6 ∧ i ≠ 1
  · rw [hw i h6.1 h6.2, k i h6.1 h6.2]
  · match i, h2, h6 with
    | 1, _, _ => rfl
    | 6, _, _ => rfl
    | 7, _, _ => rfl
    | 8, _, _ => rfl
    | 9, _, _ => rfl
    | 0, _, h6 => omega
    | 2, _, h6 => omega
    | 3, _, h6 => omega
    | 4, _, h6 => omega
    | 5, _, h6 => omega
theorem pre_of {b : List Int} {n : Int} (hb : Bytes b) (h : ¬ Wrong b n) (hl : 10 + szB b ≤ b.length) : b.take (10 + szB b) = preB n (b.getD 1 0) ((b.drop 10).take (szB b)) := by
  rw [List.take_add, head_of hb h (by omega), preB]
  congr 2
  rw [List.length_take, List.length_drop]; omega
theorem sz_le {b : List Int} {n : Int} (hb : Bytes b) (h : ¬ Wrong b n) (hl : 8 ≤ b.length) : szB b ≤ 4096 := by
  have := szB_eq hb
  by_cases hh : 256 * b.getD 6 0 + b.getD 7 0 > 4096
  · exact (h (.inl ⟨hl, hh⟩)).elim
  · omega
theorem getD_ext {a b : List Int} (hl : a.length = b.length) (h : ∀ i, i < a.length → a.getD i 0 = b.getD i 0) : a = b := by
  refine List.ext_getElem hl fun i h1 h2 => ?_
  have := h i h1
  rwa [getD_get 0 h1, getD_get 0 h2] at this
theorem getD_take {l : List Int} {i n : Nat} (h : i < n) : (l.take n).getD i 0 = l.getD i 0 := by
  rw [List.getD_eq_getElem?_getD, List.getElem?_take_of_lt h, List.getD_eq_getElem?_getD]
section
variable {b : List Int} {n : Nat}
theorem oneS_wrong (h : n ≥ 1048576 ∨ Wrong b n) : oneS b n = ((0, []), (0, 5)) := by unfold oneS; rw [if_pos h]
theorem oneS_short (h : ¬ (n ≥ 1048576 ∨ Wrong b n)) (k : b.length < 14 + szB b) : oneS b n = ((0, []), (0, 6)) := by
  unfold oneS
  rw [if_neg h]
  by_cases h14 : b.length < 14
  · rw [if_pos h14]
  · rw [if_neg h14, if_pos k]
theorem oneS_check (h : ¬ (n ≥ 1048576 ∨ Wrong b n)) (k : ¬ b.length < 14 + szB b) (c : ¬ be 4 (crc (b.take (10 + szB b))) = (b.drop (10 + szB b)).take 4) : oneS b n = ((0, []), (0, 11)) := by
  unfold oneS
  rw [if_neg h, if_neg (by omega), if_neg k, if_neg c]
theorem oneS_ok (h : ¬ (n ≥ 1048576 ∨ Wrong b n)) (k : ¬ b.length < 14 + szB b) (c : be 4 (crc (b.take (10 + szB b))) = (b.drop (10 + szB b)).take 4) : oneS b n = ((b.getD 1 0, (b.drop 10).take (szB b)), (((14 + szB b : Nat) : Int), 0)) := by
  unfold oneS
  rw [if_neg h, if_neg (by omega), if_neg k, if_pos c]
end
set_option maxHeartbeats 4000000 in
theorem one_r (b : List Int) (n : Nat) (hb : Bytes b) (hl : b.length ≤ 1000000) : dialtoneref20_One (b, (n : Int)) = some (oneS b n) := by
  unfold dialtoneref20_One
  have hx : ∀ i, 0 ≤ b.getD i 0 ∧ b.getD i 0 ≤ 255 := fun i => hb.getD i
  have x6 := hx 6
  have x7 := hx 7
  have x1 := hx 1
  have hs := szB_eq hb
  have g : ∀ i, i < b.length → b[i]? = some (b.getD i 0) := fun i hi => get_D' 0 hi
  simp only [bindO_some, bindO_none, joinO_inl, joinO_inr, joinO_none, outO_some, outO_none, cond_ite, List.take_length, Nat.le_refl, if_true, Nat.mul_one, Int.mul_one, cond_true, cond_false]
  by_cases hn : n ≥ 1048576
  · rw [if_pos (by omega), oneS_wrong (.inl hn)]
  rw [if_neg (by omega)]
  obtain ⟨r, hr, hrw⟩ := wrong_r b n hb (by omega) (by omega)
  refine bindO_eq hr ?_
  by_cases hw : Wrong b n
  · rw [oneS_wrong (.inr hw), hrw.2 hw]; rfl
  have hrf : r = false := by cases r with | false => rfl | true => exact (hw (hrw.1 rfl)).elim
  have hnw : ¬ (n ≥ 1048576 ∨ Wrong b n) := by rintro (h | h); exact hn h; exact hw h
  rw [hrf]
  simp only [bindO_some, bindO_none, joinO_inl, joinO_inr, joinO_none, outO_some, outO_none, cond_ite, List.take_length, Nat.le_refl, if_true, Nat.mul_one, Int.mul_one, cond_true, cond_false]
  by_cases h14 : b.length < 14
  · rw [if_pos (by omega), oneS_short hnw (by omega)]
  rw [if_neg (by omega)]
  have hsz := sz_le hb hw (by omega)
  simp (disch := omega) only [bindO_some, bindO_none, joinO_inl, joinO_inr, joinO_none, outO_some, outO_none, cond_ite, List.take_length, Nat.le_refl, if_true, Nat.mul_one, Int.mul_one, cond_true, cond_false, g, if_pos, wrap_i64']
  have ez : (256 * b.getD 6 0 + b.getD 7 0) = ((szB b : Nat) : Int) := hs.symm
  rw [ez]
  by_cases hlen : b.length < 14 + szB b
  · rw [if_pos (by omega), oneS_short hnw hlen]
  rw [if_neg (by omega)]
  have hpre := pre_of hb hw (by omega)
  have e10 : (10 + ((szB b : Nat) : Int)).toNat - 10 = szB b := by omega
  have hdl : ((b.drop 10).take (szB b)).length = szB b := by rw [List.length_take, List.length_drop]; omega
  simp (disch := omega) only [bindO_some, bindO_none, joinO_inl, joinO_inr, joinO_none, outO_some, outO_none, cond_ite, List.take_length, Nat.le_refl, if_true, Nat.mul_one, Int.mul_one, cond_true, cond_false, and_dec, if_pos, e10, hdl]
  have henc : dialtoneref20_Encode ((n : Int), (b.getD 1 0, (b.drop 10).take (szB b))) = some (encB n (b.getD 1 0) ((b.drop 10).take (szB b)), 0) := by
    rw [encode_r n _ _ (by omega) x1 ((hb.drop 10).take _)]
    unfold encS
    rw [if_neg (by omega), if_neg (by omega), if_neg (by rw [hdl]; omega)]
  refine bindO_eq henc ?_
  have hE : encB n (b.getD 1 0) ((b.drop 10).take (szB b)) = b.take (10 + szB b) ++ be 4 (crc (b.take (10 + szB b))) := by rw [encB, ← hpre]
  rw [hE]
  have hEl : (b.take (10 + szB b) ++ be 4 (crc (b.take (10 + szB b)))).length = 14 + szB b := by rw [List.length_append, be_length, List.length_take]; omega
  clear g
  have htk : b.take (14 + szB b) = b.take (10 + szB b) ++ (b.drop (10 + szB b)).take 4 := by rw [← List.take_add]; congr 1; omega
  generalize hEE : b.take (10 + szB b) ++ be 4 (crc (b.take (10 + szB b))) = E at *
  refine loopO_searchJ (fun o => o = some (oneS b n)) (fun i => (i : Int)) (14 + szB b) (fun i => b.getD i 0 ≠ E.getD i 0) (.inl ()) (.inr ((0, []), (0, 11))) rfl ?_ ?_ ?_ ?_ ?_
  · intro i hi hbad
    simp (disch := omega) only [bindO_some, bindO_none, joinO_inl, joinO_inr, joinO_none, outO_some, outO_none, cond_ite, List.take_length, Nat.le_refl, if_true, Nat.mul_one, Int.mul_one, cond_true, cond_false, if_pos, get_D' (0 : Int), Int.toNat_natCast, wrap_i64']
    rw [if_neg hbad]; rfl
  · intro i hi hbad
    simp (disch := omega) only [bindO_some, bindO_none, joinO_inl, joinO_inr, joinO_none, outO_some, outO_none, cond_ite, List.take_length, Nat.le_refl, if_true, Nat.mul_one, Int.mul_one, cond_true, cond_false, if_pos, get_D' (0 : Int), Int.toNat_natCast, wrap_i64']
  · rw [if_neg (by omega)]
  · rintro ⟨i, h1, h2⟩
    rw [joinO_inr, oneS_check hnw hlen]
    intro hc
    refine h2 ?_
    have : E = b.take (14 + szB b) := by
      rw [← hEE, hc, htk]
    rw [this, getD_take h1]
  · intro hno
    rw [joinO_inl, oneS_ok hnw hlen]
    · congr 3
    · have hEb : E = b.take (14 + szB b) := getD_ext (by rw [hEl, List.length_take]; omega) fun i hi => by
        rw [getD_take (by omega)]
        exact (Decidable.not_not.1 fun hh => hno ⟨i, by omega, hh⟩).symm
      rw [htk, ← hEE] at hEb
      exact List.append_cancel_left hEb
end Go.Proofs.Ytmkbnmjhkghdjaa
