/- Chapter 20, plain: what stands before the data. -/
import Derived.Test.YtmkbnmjhkghdjaaJ3
set_option linter.unusedVariables false
set_option linter.unusedSimpArgs false
namespace Go.Proofs.Ytmkbnmjhkghdjaa
open Go.RowKit

def wantL (n : Int) : List Int := [167, 0] ++ be 4 n
theorem wantL_length (n : Int) : (wantL n).length = 6 := by simp [wantL, be_length]
/-- A byte that cannot be. -/
def BadAt (b : List Int) (n : Int) (i : Nat) : Prop :=
  i < b.length ∧ ((i < 6 ∧ i ≠ 1 ∧ b.getD i 0 ≠ (wantL n).getD i 0) ∨ (i = 8 ∧ b.getD 8 0 ≠ 255 - b.getD 6 0) ∨ (i = 9 ∧ b.getD 9 0 ≠ 255 - b.getD 7 0))
def Wrong (b : List Int) (n : Int) : Prop := (8 ≤ b.length ∧ 256 * b.getD 6 0 + b.getD 7 0 > 4096) ∨ ∃ i, i < 10 ∧ BadAt b n i
set_option maxHeartbeats 4000000 in
theorem wrong_r (b : List Int) (n : Int) (hb : Bytes b) (hl : b.length ≤ 9223372036854775806) (hn : 0 ≤ n ∧ n < 1048576) : ∃ r, dialtoneref20_wrong (b, n) = some r ∧ (r = true ↔ Wrong b n) := by
  unfold dialtoneref20_wrong
  simp only [bindO_some, bindO_none, joinO_inl, joinO_inr, joinO_none, outO_some, outO_none, cond_ite, List.take_length, Nat.le_refl, if_true, Nat.mul_one, Int.mul_one, cond_true, cond_false]
  have hx : ∀ i, 0 ≤ b.getD i 0 ∧ b.getD i 0 ≤ 255 := fun i => hb.getD i
  rw [show (4 : Int) = ((4 : Nat) : Int) from rfl, number_r n 4 hn.1 (by omega) (by omega)]
  simp only [bindO_some, bindO_none, joinO_inl, joinO_inr, joinO_none, outO_some, outO_none, cond_ite, List.take_length, Nat.le_refl, if_true, Nat.mul_one, Int.mul_one, cond_true, cond_false]
  rw [if_pos (by rw [be_length]; omega), if_pos (by rw [List.length_append, be_length]; simp), show [167, 0] ++ be 4 n = wantL n from rfl]
  have hs := loopO_search (υ := Int) (β := Unit ⊕ Bool) (body := fun x => if x < 6 then if x < (b.length : Int) then if x ≠ 1 then if 0 ≤ x ∧ x < (b.length : Int) then bindO b[x.toNat]? fun x6 => if 0 ≤ x ∧ x < ((wantL n).length : Int) then bindO (wantL n)[x.toNat]? fun x7 => if x6 ≠ x7 then some (Sum.inr (Sum.inr true)) else some (Sum.inl (IntKind.wrap .i64 (x + 1))) else none else none else some (Sum.inl (IntKind.wrap .i64 (x + 1))) else some (Sum.inr (Sum.inl ())) else some (Sum.inr (Sum.inl ())))
    (fun i => (i : Int)) (min 6 b.length) (fun i => i ≠ 1 ∧ b.getD i 0 ≠ (wantL n).getD i 0) (r0 := .inl ()) (r1 := .inr true) (x := 0) rfl
    (fun i hi hbad => by
      rw [if_pos (by omega), if_pos (by omega), wrap_i64' (by omega)]
      by_cases h1 : i = 1
      · rw [if_neg (by omega)]; rfl
      · rw [if_pos (by omega), if_pos (by omega), get_D 0 (by omega)]
        simp only [bindO_some, bindO_none, joinO_inl, joinO_inr, joinO_none, outO_some, outO_none, cond_ite, List.take_length, Nat.le_refl, if_true, Nat.mul_one, Int.mul_one, cond_true, cond_false]
        rw [if_pos (by rw [wantL_length]; omega), get_D 0 (by rw [wantL_length]; omega)]
        simp only [bindO_some, bindO_none, joinO_inl, joinO_inr, joinO_none, outO_some, outO_none, cond_ite, List.take_length, Nat.le_refl, if_true, Nat.mul_one, Int.mul_one, cond_true, cond_false]
        rw [if_neg (fun h => hbad ⟨h1, h⟩)]; rfl)
    (fun i hi hbad => by
      rw [if_pos (by omega), if_pos (by omega), if_pos (by have := hbad.1; omega), if_pos (by omega), get_D 0 (by omega)]
      simp only [bindO_some, bindO_none, joinO_inl, joinO_inr, joinO_none, outO_some, outO_none, cond_ite, List.take_length, Nat.le_refl, if_true, Nat.mul_one, Int.mul_one, cond_true, cond_false]
      rw [if_pos (by rw [wantL_length]; omega), get_D 0 (by rw [wantL_length]; omega)]
      simp only [bindO_some, bindO_none, joinO_inl, joinO_inr, joinO_none, outO_some, outO_none, cond_ite, List.take_length, Nat.le_refl, if_true, Nat.mul_one, Int.mul_one, cond_true, cond_false]
      rw [if_pos hbad.2])
    (by
      by_cases h6 : b.length < 6
      · rw [if_pos (by omega), if_neg (by omega)]
      · rw [if_neg (by omega)])
  rcases hs with ⟨⟨i, h1, h2⟩, hs⟩ | ⟨hno, hs⟩
  · refine ⟨true, ?_, iff_of_true rfl (.inr ⟨i, by omega, by omega, .inl ⟨by omega, h2.1, h2.2⟩⟩)⟩
    exact joinO_eqr hs
  · have nob : ∀ i, i < 6 → ¬ BadAt b n i := fun i hi hb => by
      obtain ⟨q1, q2⟩ := hb
      rcases q2 with ⟨_, q3, q4⟩ | ⟨q3, _⟩ | ⟨q3, _⟩
      · exact hno ⟨i, by omega, q3, q4⟩
      · omega
      · omega
    have key : Wrong b n ↔ ((8 ≤ b.length ∧ 256 * b.getD 6 0 + b.getD 7 0 > 4096) ∨ (9 ≤ b.length ∧ b.getD 8 0 ≠ 255 - b.getD 6 0) ∨ (10 ≤ b.length ∧ b.getD 9 0 ≠ 255 - b.getD 7 0)) := by
      constructor
      · rintro (h | ⟨i, h1, h2⟩)
        · exact .inl h
        · by_cases h6 : i < 6
          · exact (nob i h6 h2).elim
          · obtain ⟨q1, q2⟩ := h2
            rcases q2 with ⟨q2, _⟩ | ⟨rfl, q2⟩ | ⟨rfl, q2⟩
            · omega
            · exact .inr (.inl ⟨by omega, q2⟩)
            · exact .inr (.inr ⟨by omega, q2⟩)
      · rintro (h | ⟨h1, h2⟩ | ⟨h1, h2⟩)
        · exact .inl h
        · exact .inr ⟨8, by omega, by omega, .inr (.inl ⟨rfl, h2⟩)⟩
        · exact .inr ⟨9, by omega, by omega, .inr (.inr ⟨rfl, h2⟩)⟩
    rw [key]
    suffices hg : ∀ X : Option Bool, (X = some (decide ((8 ≤ b.length ∧ 256 * b.getD 6 0 + b.getD 7 0 > 4096) ∨ (9 ≤ b.length ∧ b.getD 8 0 ≠ 255 - b.getD 6 0) ∨ (10 ≤ b.length ∧ b.getD 9 0 ≠ 255 - b.getD 7 0)))) → ∃ r, X = some r ∧ (r = true ↔ ((8 ≤ b.length ∧ 256 * b.getD 6 0 + b.getD 7 0 > 4096) ∨ (9 ≤ b.length ∧ b.getD 8 0 ≠ 255 - b.getD 6 0) ∨ (10 ≤ b.length ∧ b.getD 9 0 ≠ 255 - b.getD 7 0))) by
      refine hg _ ?_
      refine joinO_eq (a := ()) hs ?_
      have h6 := hx 6
      have h7 := hx 7
      have h8 := hx 8
      have h9 := hx 9
      have g : ∀ i, i < b.length → b[i]? = some (b.getD i 0) := fun i hi => get_D' 0 hi
      have fin : ∀ (p : Prop) [Decidable p] (r : Bool), (r = true ↔ p) → some r = some (decide p) := fun p _ r h => by rw [Option.some.injEq, Bool.eq_iff_iff, h, decide_eq_true_iff]
      by_cases c8 : 8 ≤ b.length <;> by_cases c9 : 9 ≤ b.length <;> by_cases c10 : 10 ≤ b.length <;> try omega
      all_goals simp (disch := omega) only [bindO_some, bindO_none, joinO_inl, joinO_inr, joinO_none, outO_some, outO_none, cond_ite, List.take_length, Nat.le_refl, if_true, Nat.mul_one, Int.mul_one, cond_true, cond_false, if_pos, if_neg, wrap_i64', g]
      all_goals (repeat' split)
      all_goals (refine fin _ _ ?_; simp only [decide_eq_true_eq, iff_true, true_iff, false_iff, reduceCtorEq]; omega)
    intro X hX
    exact ⟨_, hX, by simp⟩
end Go.Proofs.Ytmkbnmjhkghdjaa
