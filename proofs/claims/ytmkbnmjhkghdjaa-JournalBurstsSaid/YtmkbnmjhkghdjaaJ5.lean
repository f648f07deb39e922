/- Chapter 20, plain: what stands before the data, the program's way. -/
import Derived.Test.YtmkbnmjhkghdjaaJ4
set_option linter.unusedVariables false
set_option linter.unusedSimpArgs false
namespace Go.Proofs.Ytmkbnmjhkghdjaa
open Go.RowKit

theorem headB_want (n s : Int) : headB n 0 s = wantL n ++ (be 2 s ++ be 2 (65535 - s)) := by simp [headB, wantL]
theorem headB_getD (n s : Int) {i : Nat} (hi : i < 6) : (headB n 0 s).getD i 0 = (wantL n).getD i 0 := by
  rw [headB_want, List.getD_eq_getElem?_getD, List.getElem?_append_left (by rw [wantL_length]; exact hi), ← List.getD_eq_getElem?_getD]
/-- The loops of 'write'. -/
theorem fields_loop {β : Type} {body : Int × List Int → Option ((Int × List Int) ⊕ (List Int ⊕ β))} (L : List (Int × Int)) (m : Int) (hm : m = (L.length : Int)) (hsz : ∀ (i : Nat) (hi : i < L.length), 1 ≤ L[i].2 ∧ L[i].2 ≤ 4) (hfl : (flds L).length ≤ 40) (hL : L.length ≤ 40) (B : List Int) (hB : B.length ≤ 1000000)
    (hbody : ∀ x, body x = (if x.1 < m then joinO (if 0 ≤ x.1 ∧ x.1 < m then bindO L[x.1.toNat]? fun f => loopO (fun y => if y.1 ≥ 0 then if 0 ≤ IntKind.wrap .i64 (8 * y.1) then if (y.2 ++ [IntKind.wrap .u8 (Int.fdiv f.1 (2 ^ Min.min (Int.toNat (IntKind.wrap .i64 (8 * y.1))) 32))]).length ≤ 140737488355328 then some (Sum.inl (IntKind.wrap .i64 (y.1 - 1), y.2 ++ [IntKind.wrap .u8 (Int.fdiv f.1 (2 ^ Min.min (Int.toNat (IntKind.wrap .i64 (8 * y.1))) 32))])) else none else none else some (Sum.inr (Sum.inl y.2))) (IntKind.wrap .i64 (f.2 - 1), x.2) else none) (fun v => some (Sum.inl (IntKind.wrap .i64 (x.1 + 1), v))) else some (Sum.inr (Sum.inl x.2)))) : loopO body (0, B) = some (Sum.inl (B ++ flds L)) := by
  refine floop L B Sum.inl rfl ?_ ?_ hfl
  · intro i c hi hc
    have hz := hsz i hi
    rw [hbody]
    simp only [bindO_some, bindO_none, joinO_inl, joinO_inr, joinO_none, outO_some, outO_none, cond_ite, List.take_length, Nat.le_refl, if_true, Nat.mul_one, Int.mul_one, cond_true, cond_false]
    rw [if_pos (by omega)]
    refine joinO_eq (a := c ++ be L[i].2.toNat L[i].1) ?_ ?_
    · rw [if_pos (by omega), get_nat hi]
      refine wloop L[i].1 L[i].2.toNat c Sum.inl ?_ ?_ ?_
      · rw [wrap_i64' (by omega)]
        congr 1; omega
      · intro j b hj hb
        simp only [bindO_some, bindO_none, joinO_inl, joinO_inr, joinO_none, outO_some, outO_none, cond_ite, List.take_length, Nat.le_refl, if_true, Nat.mul_one, Int.mul_one, cond_true, cond_false]
        rw [if_pos (by omega), wrap_i64' (n := 8 * (j : Int)) (by omega), if_pos (by omega), fdiv256 _ j (by omega), wr_u8, if_pos (by rw [List.length_append]; simp; omega), wrap_i64' (by omega)]
      · intro b
        simp only [bindO_some, bindO_none, joinO_inl, joinO_inr, joinO_none, outO_some, outO_none, cond_ite, List.take_length, Nat.le_refl, if_true, Nat.mul_one, Int.mul_one, cond_true, cond_false]
        rw [if_neg (by omega)]
    · rw [wrap_i64' (by omega)]
  · intro c
    rw [hbody]
    simp only [bindO_some, bindO_none, joinO_inl, joinO_inr, joinO_none, outO_some, outO_none, cond_ite, List.take_length, Nat.le_refl, if_true, Nat.mul_one, Int.mul_one, cond_true, cond_false]
    rw [if_neg (by omega)]
theorem fld5_ok (n k s : Int) (i : Nat) (hi : i < [((167 : Int), (1 : Int)), (k, 1), (n, 4), (s, 2), (65535 - s, 2)].length) : 1 ≤ [((167 : Int), (1 : Int)), (k, 1), (n, 4), (s, 2), (65535 - s, 2)][i].2 ∧ [((167 : Int), (1 : Int)), (k, 1), (n, 4), (s, 2), (65535 - s, 2)][i].2 ≤ 4 := by
  have hi5 : i < 5 := hi
  rcases (by omega : i = 0 ∨ i = 1 ∨ i = 2 ∨ i = 3 ∨ i = 4) with rfl | rfl | rfl | rfl | rfl <;> exact ⟨by simp, by simp⟩
set_option maxHeartbeats 4000000 in
theorem begins_j (b : List Int) (n : Int) (hb : Bytes b) (hl : b.length ≤ 9223372036854775806) (hn : 0 ≤ n ∧ n < 1048576) : ∃ r, journal_begins (b, n) = some r ∧ (r = false ↔ Wrong b n) := by
  unfold journal_begins
  have hx : ∀ i, 0 ≤ b.getD i 0 ∧ b.getD i 0 ≤ 255 := fun i => hb.getD i
  have x6 := hx 6
  have x7 := hx 7
  have g : ∀ i, i < b.length → b[i]? = some (b.getD i 0) := fun i hi => get_D' 0 hi
  by_cases hbig : 8 ≤ b.length ∧ 256 * b.getD 6 0 + b.getD 7 0 > 4096
  · refine ⟨false, joinO_eqr ?_, iff_of_true rfl (.inl hbig)⟩
    obtain ⟨h8, h9⟩ := hbig
    simp (disch := omega) only [bindO_some, bindO_none, joinO_inl, joinO_inr, joinO_none, outO_some, outO_none, cond_ite, List.take_length, Nat.le_refl, if_true, Nat.mul_one, Int.mul_one, cond_true, cond_false, if_pos, if_neg, g, or_bytes]
  · obtain ⟨s, hs, h1⟩ : ∃ s : Int, (0 ≤ s ∧ s ≤ 4096) ∧ (bif (decide ((((List.length b) : Nat) : Int) ≥ (8 : Int))) then
    bif (decide (((0 : Int) ≤ (6 : Int)) ∧ ((6 : Int) < (((List.length b) : Nat) : Int)))) then 
     bindO b[6]? fun x3 =>
     bif (decide (((0 : Int) ≤ (7 : Int)) ∧ ((7 : Int) < (((List.length b) : Nat) : Int)))) then 
      bindO b[7]? fun x6 =>
      bindO (some (Go.IntKind.wrap .i64 (((BitVec.toNat ((BitVec.ofInt 64 (Go.IntKind.wrap .i64 ((Go.IntKind.wrap .i64 x3) * (256 : Int)))) ||| (BitVec.ofInt 64 (Go.IntKind.wrap .i64 x6)))) : Nat) : Int))) fun x8 =>
      bif (decide (x8 > (4096 : Int))) then
       outO (some Bool.false)
      else
       some (Sum.inl x8)
     else none
    else none
   else
    some (Sum.inl (0 : Int))) = some (Sum.inl s) := by
      by_cases h8 : 8 ≤ b.length
      · refine ⟨256 * b.getD 6 0 + b.getD 7 0, by omega, ?_⟩
        simp (disch := omega) only [bindO_some, bindO_none, joinO_inl, joinO_inr, joinO_none, outO_some, outO_none, cond_ite, List.take_length, Nat.le_refl, if_true, Nat.mul_one, Int.mul_one, cond_true, cond_false, if_pos, if_neg, g, or_bytes]
      · refine ⟨0, by omega, ?_⟩
        simp (disch := omega) only [bindO_some, bindO_none, joinO_inl, joinO_inr, joinO_none, outO_some, outO_none, cond_ite, List.take_length, Nat.le_refl, if_true, Nat.mul_one, Int.mul_one, cond_true, cond_false, if_pos, if_neg]
    suffices hg : ∃ r, (joinO (some (Sum.inl s)) _ : Option Bool) = some r ∧ (r = false ↔ Wrong b n) by
      obtain ⟨r, hr, h2⟩ := hg
      exact ⟨r, by rw [← h1] at hr; exact hr, h2⟩
    rw [joinO_inl]
    have ws : ∀ z : Int, 0 ≤ z → z ≤ 4294967295 → IntKind.wrap .u32 z = z := fun z a b => by rw [wr_u32]; omega
    rw [ws n (by omega) (by omega), ws s (by omega) (by omega), wrap_i64' (n := 65535 - s) (by omega), ws (65535 - s) (by omega) (by omega)]
    have hF : (flds [(167, 1), (0, 1), (n, 4), (s, 2), (65535 - s, 2)]) = headB n 0 s := flds5 n 0 s (by omega)
    simp only [bindO_some, bindO_none, joinO_inl, joinO_inr, joinO_none, outO_some, outO_none, cond_ite, List.take_length, Nat.le_refl, if_true, Nat.mul_one, Int.mul_one, cond_true, cond_false]
    have hloop := fields_loop (β := List Int ⊕ Bool) [(167, 1), (0, 1), (n, 4), (s, 2), (65535 - s, 2)] 5 rfl (fld5_ok n 0 s) (by rw [hF, headB_length]; omega) (by simp) [] (by simp) (fun _ => rfl)
    rw [hloop]
    simp only [bindO_some, bindO_none, joinO_inl, joinO_inr, joinO_none, outO_some, outO_none, cond_ite, List.take_length, Nat.le_refl, if_true, Nat.mul_one, Int.mul_one, cond_true, cond_false]
    rw [hF]
    simp only [List.nil_append]
    have hbytes := headB_bytes (n := n) (k := 0) (s := s) (by omega)
    have hHl := headB_length n 0 s
    have hminA : ∀ z : Int, minA z 10 = if 10 < z then 10 else z := fun z => rfl
    refine loopO_searchJ (fun o : Option Bool => ∃ r, o = some r ∧ (r = false ↔ Wrong b n)) (fun i => (i : Int)) (min b.length 10) (BadAt b n) (.inl ()) (.inr false) rfl ?_ ?_ ?_ ?_ ?_
    · intro i hi hbad
      have hlt : (i : Int) < minA (b.length : Int) 10 := by rw [hminA]; split <;> omega
      have hnext : IntKind.wrap .i64 ((i : Int) + 1) = ((i + 1 : Nat) : Int) := by rw [wrap_i64' (by omega)]; omega
      rw [if_pos hlt, hnext]
      by_cases i1 : i = 1 ∨ i = 6 ∨ i = 7
      · rcases i1 with rfl | rfl | rfl <;> rfl
      have e1 : (if (i : Int) = 1 then (some (Sum.inl true) : Option (Bool ⊕ (Int ⊕ (Unit ⊕ Bool)))) else if (i : Int) = 6 then some (Sum.inl true) else some (Sum.inl (decide ((i : Int) = 7)))) = some (Sum.inl false) := by
        rw [if_neg (by omega), if_neg (by omega), decide_eq_false (by omega)]
      have hd := hx i
      by_cases i8 : i = 8 ∨ i = 9
      · have hd2 := hx (i - 2)
        have hbad' : ¬ (b.getD i 0 ≠ 255 - b.getD (i - 2) 0) := fun h => hbad ⟨by omega, by rcases i8 with rfl | rfl; exact .inr (.inl ⟨rfl, h⟩); exact .inr (.inr ⟨rfl, h⟩)⟩
        have e2 : IntKind.wrap .i64 ((i : Int) - 2) = ((i - 2 : Nat) : Int) := by rw [wrap_i64' (by omega)]; omega
        have e3 : (if (i : Int) = 8 then (some (Sum.inl true) : Option (Bool ⊕ (Int ⊕ (Unit ⊕ Bool)))) else some (Sum.inl (decide ((i : Int) = 9)))) = some (Sum.inl true) := by rcases i8 with rfl | rfl <;> rfl
        simp (disch := omega) only [bindO_some, bindO_none, joinO_inl, joinO_inr, joinO_none, outO_some, outO_none, cond_ite, List.take_length, Nat.le_refl, if_true, Nat.mul_one, Int.mul_one, cond_true, cond_false, e1, e2, e3, get_D (0 : Int), wr_u8, if_pos]
        rw [if_neg (by omega)]
      · have e3 : (if (i : Int) = 8 then (some (Sum.inl true) : Option (Bool ⊕ (Int ⊕ (Unit ⊕ Bool)))) else some (Sum.inl (decide ((i : Int) = 9)))) = some (Sum.inl false) := by
          rw [if_neg (by omega), decide_eq_false (by omega)]
        have hbad' : b.getD i 0 = (wantL n).getD i 0 := Decidable.not_not.1 fun h => hbad ⟨by omega, .inl ⟨by omega, by omega, h⟩⟩
        simp (disch := omega) only [bindO_some, bindO_none, joinO_inl, joinO_inr, joinO_none, outO_some, outO_none, cond_ite, List.take_length, Nat.le_refl, if_true, Nat.mul_one, Int.mul_one, cond_true, cond_false, e1, e3, get_D (0 : Int), if_pos, headB_getD n s (show i < 6 by omega)]
        rw [if_neg (fun h => h hbad')]
    · intro i hi hbad
      have hlt : (i : Int) < minA (b.length : Int) 10 := by rw [hminA]; split <;> omega
      have hnext : IntKind.wrap .i64 ((i : Int) + 1) = ((i + 1 : Nat) : Int) := by rw [wrap_i64' (by omega)]; omega
      rw [if_pos hlt, hnext]
      by_cases i1 : i = 1 ∨ i = 6 ∨ i = 7
      · obtain ⟨_, hbd⟩ := hbad
        rcases hbd with ⟨_, _, _⟩ | ⟨_, _⟩ | ⟨_, _⟩ <;> omega
      have e1 : (if (i : Int) = 1 then (some (Sum.inl true) : Option (Bool ⊕ (Int ⊕ (Unit ⊕ Bool)))) else if (i : Int) = 6 then some (Sum.inl true) else some (Sum.inl (decide ((i : Int) = 7)))) = some (Sum.inl false) := by
        rw [if_neg (by omega), if_neg (by omega), decide_eq_false (by omega)]
      have hd := hx i
      obtain ⟨hlb, hbd⟩ := hbad
      by_cases i8 : i = 8 ∨ i = 9
      · have hd2 := hx (i - 2)
        have hbad' : b.getD i 0 ≠ 255 - b.getD (i - 2) 0 := by
          rcases hbd with ⟨_, _, _⟩ | ⟨h, h'⟩ | ⟨h, h'⟩
          · omega
          · subst h; exact h'
          · subst h; exact h'
        have e2 : IntKind.wrap .i64 ((i : Int) - 2) = ((i - 2 : Nat) : Int) := by rw [wrap_i64' (by omega)]; omega
        have e3 : (if (i : Int) = 8 then (some (Sum.inl true) : Option (Bool ⊕ (Int ⊕ (Unit ⊕ Bool)))) else some (Sum.inl (decide ((i : Int) = 9)))) = some (Sum.inl true) := by rcases i8 with rfl | rfl <;> rfl
        simp (disch := omega) only [bindO_some, bindO_none, joinO_inl, joinO_inr, joinO_none, outO_some, outO_none, cond_ite, List.take_length, Nat.le_refl, if_true, Nat.mul_one, Int.mul_one, cond_true, cond_false, e1, e2, e3, get_D (0 : Int), wr_u8, if_pos]
      · have e3 : (if (i : Int) = 8 then (some (Sum.inl true) : Option (Bool ⊕ (Int ⊕ (Unit ⊕ Bool)))) else some (Sum.inl (decide ((i : Int) = 9)))) = some (Sum.inl false) := by
          rw [if_neg (by omega), decide_eq_false (by omega)]
        have hbad' : b.getD i 0 ≠ (wantL n).getD i 0 := by
          rcases hbd with ⟨_, _, h⟩ | ⟨_, _⟩ | ⟨_, _⟩
          · exact h
          · omega
          · omega
        simp (disch := omega) only [bindO_some, bindO_none, joinO_inl, joinO_inr, joinO_none, outO_some, outO_none, cond_ite, List.take_length, Nat.le_refl, if_true, Nat.mul_one, Int.mul_one, cond_true, cond_false, e1, e3, get_D (0 : Int), if_pos, headB_getD n s (show i < 6 by omega)]
    · rw [if_neg (by rw [hminA]; split <;> omega)]
    · rintro ⟨i, h1, h2⟩
      exact ⟨false, rfl, iff_of_true rfl (.inr ⟨i, by omega, h2⟩)⟩
    · intro hno
      refine ⟨true, rfl, iff_of_false (by simp) ?_⟩
      rintro (h | ⟨i, h1, h2⟩)
      · exact hbig h
      · exact hno ⟨i, by have := h2.1; omega, h2⟩
end Go.Proofs.Ytmkbnmjhkghdjaa
