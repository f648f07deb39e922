/- Chapter 20, plain: numbers as bytes, records as bytes. -/
import Derived.Test.YtmkbnmjhkghdjaaJ1
set_option linter.unusedVariables false
set_option linter.unusedSimpArgs false
namespace Go.Proofs.Ytmkbnmjhkghdjaa
open Go.RowKit

/-- A number as bytes, the more significant one first. -/
def be : Nat → Int → List Int
  | 0, _ => []
  | k + 1, n => be k (n / 256) ++ [n % 256]
theorem be_length : ∀ (k : Nat) (n : Int), (be k n).length = k
  | 0, _ => rfl
  | k + 1, n => by rw [be, List.length_append, be_length k]; rfl
theorem be_cons : ∀ (k : Nat) (n : Int), be (k + 1) n = (n / 256 ^ k % 256) :: be k n
  | 0, n => by simp [be]
  | k + 1, n => by
    rw [be, be_cons k, be, List.cons_append]
    congr 2
    rw [Int.pow_succ, Int.mul_comm, ← Int.ediv_ediv_of_nonneg (by omega)]
theorem be_bytes : ∀ (k : Nat) (n : Int), Bytes (be k n)
  | 0, _ => fun x hx => by cases hx
  | k + 1, n => by
    rw [be]
    refine (be_bytes k _).app fun x hx => ?_
    rw [List.mem_singleton] at hx
    omega
theorem number_r (n : Int) (k : Nat) (h0 : 0 ≤ n) (hn : n ≤ 9223372036854775807) (hk : k ≤ 1000) : dialtoneref20_number (n, (k : Int)) = some (be k n) := by
  unfold dialtoneref20_number
  refine joinO_eq (a := be k n) (loopO_from (fun i => ((i : Int), (n / 256 ^ i, be i n))) k (by simp [be]) ?_ ?_) rfl
  · intro i hi
    have hp : 0 < (256 : Int) ^ i := Int.pow_pos (by omega)
    have hd0 : 0 ≤ n / 256 ^ i := Int.ediv_nonneg h0 (by omega)
    have hd1 : n / 256 ^ i ≤ n := Int.ediv_le_self _ h0
    have hnext : IntKind.wrap .i64 (Int.tdiv (n / 256 ^ i) 256) = n / 256 ^ (i + 1) := by
      rw [Int.tdiv_eq_ediv_of_nonneg hd0, Int.pow_succ, ← Int.ediv_ediv_of_nonneg (by omega), wrap_i64' (by omega)]
    simp only [bindO_some, bindO_none, joinO_inl, joinO_inr, joinO_none, outO_some, outO_none, cond_ite, List.take_length, Nat.le_refl, if_true, Nat.mul_one, Int.mul_one, cond_true, cond_false, be_cons i n]
    rw [if_pos (by omega), Int.tmod_eq_emod_of_nonneg hd0, wr_u8, Int.emod_emod_of_dvd _ (by omega), hnext, wrap_i64' (by omega), be_length]
    by_cases hi0 : i = 0
    · subst hi0
      rw [if_neg (by omega)]
      rfl
    · rw [if_pos (by omega), if_pos (by rw [List.length_append, be_length]; simp; omega)]
      rfl
  · simp only [bindO_some, bindO_none, joinO_inl, joinO_inr, joinO_none, outO_some, outO_none, cond_ite, List.take_length, Nat.le_refl, if_true, Nat.mul_one, Int.mul_one, cond_true, cond_false]
    rw [if_neg (by omega)]
theorem wloop {β : Type} {body : Int × List Int → Option ((Int × List Int) ⊕ β)} (v : Int) (size : Nat) (b : List Int) (fin : List Int → β) {x : Int × List Int} (hx : x = ((size : Int) - 1, b))
    (h1 : ∀ (i : Nat) (c : List Int), i < size → c.length ≤ b.length + size → body ((i : Int), c) = some (.inl ((i : Int) - 1, c ++ [v / 256 ^ i % 256]))) (h2 : ∀ c, body (-1, c) = some (.inr (fin c))) : loopO body x = some (fin (b ++ be size v)) := by
  have key : ∀ (n : Nat) (c : List Int), n ≤ size → c.length + n = b.length + size → loopO body ((n : Int) - 1, c) = some (fin (c ++ be n v)) := by
    intro n
    induction n with
    | zero => intro c _ _; rw [loopO_eq, show (((0 : Nat) : Int) - 1) = -1 from rfl, h2]; simp [be]
    | succ n ih =>
      intro c hn hc
      rw [loopO_eq, show (((n + 1 : Nat) : Int) - 1) = ((n : Nat) : Int) from by omega, h1 n c (by omega) (by omega)]
      simp only
      rw [ih _ (by omega) (by rw [List.length_append]; simp; omega), be_cons, List.append_assoc]
      rfl
  rw [hx]
  exact key size b (Nat.le_refl _) rfl
theorem fdiv256 (v : Int) (i : Nat) (hi : i < 4) : Int.fdiv v ((2 : Int) ^ (Min.min (Int.toNat (8 * (i : Int))) 32)) = v / 256 ^ i := by
  rw [Int.fdiv_eq_ediv_of_nonneg _ (Int.pow_nonneg (by omega))]
  rcases (by omega : i = 0 ∨ i = 1 ∨ i = 2 ∨ i = 3) with rfl | rfl | rfl | rfl <;> rfl
/-- The bytes of some fields. -/
def flds (fs : List (Int × Int)) : List Int := fs.flatMap fun f => be f.2.toNat f.1
def headB (n k s : Int) : List Int := [167, k] ++ (be 4 n ++ (be 2 s ++ be 2 (65535 - s)))
def preB (n k : Int) (d : List Int) : List Int := headB n k d.length ++ d
def encB (n k : Int) (d : List Int) : List Int := preB n k d ++ be 4 (crc (preB n k d))
def encS (n k : Int) (d : List Int) : List Int × Int := if n < 0 then ([], 3) else if n > 1048575 then ([], 3) else if (d.length : Int) > 4096 then ([], 4) else (encB n k d, 0)
theorem headB_length (n k s : Int) : (headB n k s).length = 10 := by simp [headB, be_length]
theorem headB_bytes {n k s : Int} (hk : 0 ≤ k ∧ k ≤ 255) : Bytes (headB n k s) := by
  refine Bytes.app (fun x hx => ?_) ((be_bytes _ _).app ((be_bytes _ _).app (be_bytes _ _)))
  simp only [List.mem_cons, List.not_mem_nil, or_false] at hx
  omega
theorem preB_bytes {n k : Int} {d : List Int} (hk : 0 ≤ k ∧ k ≤ 255) (hd : Bytes d) : Bytes (preB n k d) := (headB_bytes hk).app hd
theorem preB_length (n k : Int) (d : List Int) : (preB n k d).length = 10 + d.length := by rw [preB, List.length_append, headB_length]
theorem flds5 (n k s : Int) (hk : 0 ≤ k ∧ k ≤ 255) : flds [(167, 1), (k, 1), (n, 4), (s, 2), (65535 - s, 2)] = headB n k s := by
  have h1 : be 1 167 = [167] := rfl
  have h2 : be 1 k = [k] := by simp [be]; omega
  simp only [flds, List.flatMap_cons, List.flatMap_nil, List.append_nil]
  show be 1 167 ++ (be 1 k ++ (be 4 n ++ (be 2 s ++ be 2 (65535 - s)))) = _
  rw [h1, h2]; rfl
/-- A loop over fields. -/
theorem floop {β : Type} {body : Int × List Int → Option ((Int × List Int) ⊕ β)} (fs : List (Int × Int)) (b : List Int) (fin : List Int → β) {x : Int × List Int} (hx : x = (0, b))
    (h1 : ∀ (i : Nat) (c : List Int) (hi : i < fs.length), c.length ≤ b.length + 40 → body ((i : Int), c) = some (.inl ((i : Int) + 1, c ++ be fs[i].2.toNat fs[i].1))) (h2 : ∀ c, body ((fs.length : Int), c) = some (.inr (fin c))) (h3 : (flds fs).length ≤ 40) : loopO body x = some (fin (b ++ flds fs)) := by
  have hle : ∀ i, (flds (fs.take i)).length ≤ (flds fs).length := fun i => by
    conv => rhs; rw [← List.take_append_drop i fs]
    unfold flds
    rw [List.flatMap_append, List.length_append]; omega
  refine loopO_from (fun i => ((i : Int), b ++ flds (fs.take i))) fs.length ?_ ?_ ?_
  · rw [hx]; simp [flds]
  · intro i hi
    rw [h1 i _ hi (by rw [List.length_append]; have := hle i; omega), List.take_add_one, List.getElem?_eq_getElem hi]
    unfold flds
    rw [List.flatMap_append, ← List.append_assoc]
    simp
  · simp only [List.take_length]
    exact h2 _
theorem encode_r (n k : Int) (d : List Int) (hn : n ≤ 9223372036854775807) (hk : 0 ≤ k ∧ k ≤ 255) (hd : Bytes d) : dialtoneref20_Encode (n, (k, d)) = some (encS n k d) := by
  unfold dialtoneref20_Encode encS
  simp only [bindO_some, bindO_none, joinO_inl, joinO_inr, joinO_none, outO_some, outO_none, cond_ite, List.take_length, Nat.le_refl, if_true, Nat.mul_one, Int.mul_one, cond_true, cond_false]
  by_cases h1 : n < 0
  · rw [if_pos h1, if_pos h1]
  by_cases h2 : n > 1048575
  · rw [if_neg h1, if_pos (by omega), if_neg h1, if_pos h2]
  by_cases h3 : (d.length : Int) > 4096
  · rw [if_neg h1, if_neg (by omega), if_pos h3, if_neg h1, if_neg h2, if_pos h3]
  rw [if_neg h1, if_neg (by omega), if_neg h3, if_neg h1, if_neg h2, if_neg h3]
  refine bindO_eq (number_r n 4 (by omega) (by omega) (by omega)) ?_
  rw [if_pos (by rw [be_length]; omega), if_pos (by simp [be_length])]
  refine bindO_eq (number_r _ 2 (by omega) (by omega) (by omega)) ?_
  rw [if_pos (by simp [be_length])]
  rw [wrap_i64' (by omega)]
  refine bindO_eq (number_r _ 2 (by omega) (by omega) (by omega)) ?_
  rw [if_pos (by simp [be_length]), if_pos (by simp [be_length]; omega)]
  have e : [167, k] ++ be 4 n ++ be 2 (d.length : Int) ++ be 2 (65535 - (d.length : Int)) ++ d = preB n k d := by
    simp [preB, headB]
  rw [e]
  refine bindO_eq (check_r _ (preB_bytes hk hd) (by rw [preB_length]; omega)) ?_
  have := crc_bnd (preB n k d)
  rw [wrap_i64' (by omega)]
  refine bindO_eq (number_r _ 4 (by omega) (by omega) (by omega)) ?_
  rw [if_pos (by rw [List.length_append, preB_length, be_length]; omega)]
  rfl
end Go.Proofs.Ytmkbnmjhkghdjaa
