/- Chapter 20, plain: JournalBursts. -/
import Derived.Test.YtmkbnmjhkghdjaaJ16
set_option linter.unusedVariables false
set_option linter.unusedSimpArgs false
namespace Go.Proofs.Ytmkbnmjhkghdjaa
open Go.RowKit

/-- The bits that are changed so far. -/
def mskB (c : Nat → Bool) (s size off : Nat) : Nat → Nat → Nat
  | 0, _ => 0
  | k + 1, i => if (c k = true ∧ s + k < size) ∧ off + (s + k) / 8 = i then mskB c s size off k i ^^^ 2 ^ ((s + k) % 8) else mskB c s size off k i
theorem mskB_bit (c : Nat → Bool) (s size off : Nat) : ∀ (k i b : Nat), b < 8 → ((mskB c s size off k i).testBit b = true ↔ ∃ j, j < k ∧ c j = true ∧ s + j < size ∧ off + (s + j) / 8 = i ∧ (s + j) % 8 = b)
  | 0, i, b, hb => by simp [mskB]
  | k + 1, i, b, hb => by
    have ih := mskB_bit c s size off k i b hb
    rw [mskB]
    split
    · rename_i h
      rw [Nat.testBit_xor, pow_bit]
      by_cases hk : (s + k) % 8 = b
      · have hno : (mskB c s size off k i).testBit b = false := by
          cases hh : (mskB c s size off k i).testBit b with
          | false => rfl
          | true =>
            obtain ⟨j, j1, _, _, j4, j5⟩ := ih.1 hh
            omega
        rw [hno]
        simp only [hk, decide_true, Bool.false_xor, true_iff]
        exact ⟨k, by omega, h.1.1, h.1.2, h.2, hk⟩
      · simp only [hk, decide_false, Bool.xor_false]
        rw [ih]
        constructor
        · rintro ⟨j, j1, j2⟩; exact ⟨j, by omega, j2⟩
        · rintro ⟨j, j1, j2, j3, j4, j5⟩
          have : j ≠ k := fun e => by subst e; exact hk j5
          exact ⟨j, by omega, j2, j3, j4, j5⟩
    · rename_i h
      rw [ih]
      constructor
      · rintro ⟨j, j1, j2⟩; exact ⟨j, by omega, j2⟩
      · rintro ⟨j, j1, j2, j3, j4, j5⟩
        have : j ≠ k := fun e => by subst e; exact h ⟨⟨j2, j3⟩, j4⟩
        exact ⟨j, by omega, j2, j3, j4, j5⟩
theorem mskB_lt (c : Nat → Bool) (s size off : Nat) : ∀ (k i : Nat), mskB c s size off k i < 256
  | 0, i => by simp [mskB]
  | k + 1, i => by
    have ih := mskB_lt c s size off k i
    rw [mskB]
    split
    · exact Nat.xor_lt_two_pow (n := 8) ih (Nat.pow_lt_pow_right (a := 2) (by omega) (by omega))
    · exact ih
theorem least_bit {n : Nat} (h : n ≠ 0) : ∃ t, n.testBit t = true ∧ ∀ j, j < t → n.testBit j = false := by
  have hex : ∃ t, n.testBit t = true := by
    rcases Nat.lt_or_ge 0 (Nat.log2 n + 1) with _ | h'
    · exact ⟨Nat.log2 n, by
        have h1 := Nat.log2_self_le h
        have h2 := Nat.lt_log2_self (n := n)
        rw [Nat.testBit_eq_decide_div_mod_eq]
        have h3 : n / 2 ^ n.log2 = 1 := by
          have hp := Nat.two_pow_pos n.log2
          refine (Nat.div_eq_iff hp).2 ⟨by omega, ?_⟩
          rw [Nat.pow_succ] at h2
          omega
        rw [h3]; rfl⟩
    · omega
  obtain ⟨t, h1, h2⟩ := least hex
  refine ⟨t, h1, fun j hj => ?_⟩
  cases hh : n.testBit j with
  | false => rfl
  | true => exact (h2 j hj hh).elim
theorem u32_bit {x : Int} (hx : 0 ≤ x ∧ x ≤ 4294967295) {k : Nat} (hk : k < 32) : (IntKind.wrap .u32 (((BitVec.toNat ((BitVec.ofInt 32 (Int.fdiv x ((2 : Int) ^ (Min.min (Int.toNat (k : Int)) 32)))) &&& (BitVec.ofInt 32 (1 : Int)))) : Nat) : Int) = 1) ↔ x.toNat.testBit k = true := by
  obtain ⟨m, rfl⟩ : ∃ m : Nat, x = (m : Int) := ⟨x.toNat, by omega⟩
  rw [Int.toNat_natCast, Int.toNat_natCast, Nat.min_eq_left (by omega), Int.fdiv_eq_ediv_of_nonneg _ (Int.pow_nonneg (by omega)), show ((m : Int) / 2 ^ k) = ((m / 2 ^ k : Nat) : Int) from by simp, BitVec.ofInt_natCast, show BitVec.ofInt 32 1 = 1#32 from rfl, and1, BitVec.toNat_ofNat]
  have h1 : m / 2 ^ k ≤ m := Nat.div_le_self _ _
  rw [wr_u32, Nat.testBit_eq_decide_div_mod_eq]
  generalize m / 2 ^ k = w at *
  simp only [decide_eq_true_eq]
  omega
end Go.Proofs.Ytmkbnmjhkghdjaa
