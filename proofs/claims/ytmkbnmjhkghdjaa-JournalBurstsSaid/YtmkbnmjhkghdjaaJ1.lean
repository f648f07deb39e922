/- Chapter 20, plain: the check. -/
import Derived.Test.YtmkbnmjhkghdjaaY1
import Derived.Test.YtmkbnmjhkghdjaaZ1
set_option linter.unusedVariables false
set_option linter.unusedSimpArgs false
namespace Go.Proofs.Ytmkbnmjhkghdjaa
open Go.RowKit

/-- One bit. -/
def crcBit (v : BitVec 32) : BitVec 32 := if v.toNat % 2 = 1 then (v >>> 1) ^^^ 3988292384#32 else v >>> 1
def itB : Nat → BitVec 32 → BitVec 32
  | 0, v => v
  | n + 1, v => crcBit (itB n v)
def crcB (c : BitVec 32) (x : Int) : BitVec 32 := itB 8 (c ^^^ BitVec.ofInt 32 x)
def crcV (l : List Int) : BitVec 32 := l.foldl crcB 4294967295#32
def crc (l : List Int) : Int := (((crcV l ^^^ 4294967295#32).toNat : Nat) : Int)
theorem bvI (v : BitVec 32) : BitVec.ofInt 32 ((v.toNat : Nat) : Int) = v := by
  rw [BitVec.ofInt_natCast, BitVec.ofNat_toNat, BitVec.setWidth_eq]
theorem wrBV (v : BitVec 32) : IntKind.wrap .u32 ((v.toNat : Nat) : Int) = ((v.toNat : Nat) : Int) := by
  rw [wr_u32]
  have := v.isLt
  omega
theorem wrHalf (v : BitVec 32) : IntKind.wrap .u32 (Int.tdiv ((v.toNat : Nat) : Int) 2) = (((v >>> 1).toNat : Nat) : Int) := by
  rw [wr_u32, BitVec.toNat_ushiftRight, Nat.shiftRight_eq_div_pow, Int.tdiv_eq_ediv_of_nonneg (by omega)]
  have := v.isLt
  omega
theorem and1 (v : BitVec 32) : (v &&& 1#32).toNat = v.toNat % 2 := by
  rw [BitVec.toNat_and]
  show v.toNat &&& 1 = _
  rw [Nat.and_one_is_mod]
theorem crc_of (v : BitVec 32) : ((((v ^^^ 4294967295#32).toNat : Nat) : Int)) = ((((4294967295#32 ^^^ v).toNat : Nat) : Int)) := by rw [BitVec.xor_comm]
theorem foldl_take {α β : Type} (f : β → α → β) (b : β) (l : List α) {i : Nat} (h : i < l.length) : (l.take (i + 1)).foldl f b = f ((l.take i).foldl f b) l[i] := by
  rw [List.take_add_one, List.getElem?_eq_getElem h, List.foldl_append]; rfl
theorem check_j (l : List Int) (h : Bytes l) (hl : l.length ≤ 9223372036854775806) : journal_Check l = some (crc l) := by
  unfold journal_Check
  refine joinO_eq (a := (((crcV l).toNat : Nat) : Int)) (loopO_from (fun i => ((i : Int), ((((l.take i).foldl crcB 4294967295#32).toNat : Nat) : Int))) l.length rfl ?_ ?_) ?_
  · intro i hi
    simp only [bindO_some, bindO_none, joinO_inl, joinO_inr, joinO_none, outO_some, outO_none, cond_ite, List.take_length, Nat.le_refl, if_true, Nat.mul_one, Int.mul_one, cond_true, cond_false]
    rw [if_pos (by omega)]
    refine joinO_eq (a := ((((l.take (i + 1)).foldl crcB 4294967295#32).toNat : Nat) : Int)) ?_ ?_
    · rw [if_pos (by omega), get_nat hi]
      generalize hc : (l.take i).foldl crcB 4294967295#32 = c
      have hx := h.get hi
      have e0 : BitVec.ofInt 32 (IntKind.wrap .u32 l[i]) = BitVec.ofInt 32 l[i] := by
        rw [wr_u32]; congr 1; omega
      refine loopO_from (fun j => ((j : Int), (((itB j (c ^^^ BitVec.ofInt 32 l[i])).toNat : Nat) : Int))) 8 ?_ ?_ ?_
      · show ((0 : Int), (((c ^^^ BitVec.ofInt 32 l[i]).toNat : Nat) : Int)) = _
        rw [e0, bvI, wrBV]
      · intro j hj
        show _ = some (Sum.inl (((j + 1 : Nat) : Int), (((crcBit (itB j (c ^^^ BitVec.ofInt 32 l[i]))).toNat : Nat) : Int)))
        generalize itB j (c ^^^ BitVec.ofInt 32 l[i]) = v at *
        simp only [bindO_some, bindO_none, joinO_inl, joinO_inr, joinO_none, outO_some, outO_none, cond_ite, List.take_length, Nat.le_refl, if_true, Nat.mul_one, Int.mul_one, cond_true, cond_false]
        rw [if_pos (by omega), wrap_i64' (by omega)]
        simp only [wrHalf, bvI, wrBV]
        rw [show BitVec.ofInt 32 1 = 1#32 from rfl, and1]
        unfold crcBit
        by_cases hb : v.toNat % 2 = 1
        · rw [if_pos (by omega), if_pos hb]; rfl
        · rw [if_neg (by omega), if_neg hb]; rfl
      · simp only [bindO_some, bindO_none, joinO_inl, joinO_inr, joinO_none, outO_some, outO_none, cond_ite, List.take_length, Nat.le_refl, if_true, Nat.mul_one, Int.mul_one, cond_true, cond_false]
        rw [if_neg (by omega), foldl_take crcB _ l hi, hc]
        rfl
    · rw [wrap_i64' (by omega)]; rfl
  · simp only [bindO_some, bindO_none, joinO_inl, joinO_inr, joinO_none, outO_some, outO_none, cond_ite, List.take_length, Nat.le_refl, if_true, Nat.mul_one, Int.mul_one, cond_true, cond_false]
    rw [if_neg (by omega)]
    rfl
  · simp only [bvI]
    rw [show BitVec.ofInt 32 4294967295 = 4294967295#32 from rfl, wrBV, BitVec.xor_comm]; rfl
theorem check_r (l : List Int) (h : Bytes l) (hl : l.length ≤ 9223372036854775806) : dialtoneref20_Check l = some (crc l) := by
  unfold dialtoneref20_Check
  refine joinO_eq (a := (((crcV l).toNat : Nat) : Int)) (loopO_from (fun i => ((i : Int), ((((l.take i).foldl crcB 4294967295#32).toNat : Nat) : Int))) l.length rfl ?_ ?_) ?_
  · intro i hi
    simp only [bindO_some, bindO_none, joinO_inl, joinO_inr, joinO_none, outO_some, outO_none, cond_ite, List.take_length, Nat.le_refl, if_true, Nat.mul_one, Int.mul_one, cond_true, cond_false]
    rw [if_pos (by omega)]
    refine joinO_eq (a := ((((l.take (i + 1)).foldl crcB 4294967295#32).toNat : Nat) : Int)) ?_ ?_
    · rw [if_pos (by omega), get_nat hi]
      generalize hc : (l.take i).foldl crcB 4294967295#32 = c
      have hx := h.get hi
      have e0 : BitVec.ofInt 32 (IntKind.wrap .u32 l[i]) = BitVec.ofInt 32 l[i] := by
        rw [wr_u32]; congr 1; omega
      refine loopO_from (fun j => ((j : Int), (((itB j (c ^^^ BitVec.ofInt 32 l[i])).toNat : Nat) : Int))) 8 ?_ ?_ ?_
      · show ((0 : Int), (((c ^^^ BitVec.ofInt 32 l[i]).toNat : Nat) : Int)) = _
        rw [e0, bvI, wrBV]
      · intro j hj
        show _ = some (Sum.inl (((j + 1 : Nat) : Int), (((crcBit (itB j (c ^^^ BitVec.ofInt 32 l[i]))).toNat : Nat) : Int)))
        generalize itB j (c ^^^ BitVec.ofInt 32 l[i]) = v at *
        simp only [bindO_some, bindO_none, joinO_inl, joinO_inr, joinO_none, outO_some, outO_none, cond_ite, List.take_length, Nat.le_refl, if_true, Nat.mul_one, Int.mul_one, cond_true, cond_false]
        rw [if_pos (by omega), wrap_i64' (by omega)]
        simp only [wrHalf, bvI, wrBV]
        rw [Int.tmod_eq_emod_of_nonneg (by omega)]
        unfold crcBit
        by_cases hb : v.toNat % 2 = 1
        · rw [if_pos (by omega), if_pos hb]; rfl
        · rw [if_neg (by omega), if_neg hb]; rfl
      · simp only [bindO_some, bindO_none, joinO_inl, joinO_inr, joinO_none, outO_some, outO_none, cond_ite, List.take_length, Nat.le_refl, if_true, Nat.mul_one, Int.mul_one, cond_true, cond_false]
        rw [if_neg (by omega), foldl_take crcB _ l hi, hc]
        rfl
    · rw [wrap_i64' (by omega)]; rfl
  · simp only [bindO_some, bindO_none, joinO_inl, joinO_inr, joinO_none, outO_some, outO_none, cond_ite, List.take_length, Nat.le_refl, if_true, Nat.mul_one, Int.mul_one, cond_true, cond_false]
    rw [if_neg (by omega)]
    rfl
  · simp only [bvI]
    rw [show BitVec.ofInt 32 4294967295 = 4294967295#32 from rfl, wrBV]; rfl
theorem crc_bnd (l : List Int) : 0 ≤ crc l ∧ crc l < 4294967296 := by
  unfold crc
  have := (crcV l ^^^ 4294967295#32).isLt
  omega
end Go.Proofs.Ytmkbnmjhkghdjaa
