/- Chapter 37, plain: seconds, prices. -/
import Derived.Test.YtbckoncbimljeaaJ2
set_option linter.unusedVariables false
set_option linter.unusedSimpArgs false
set_option maxRecDepth 100000
namespace Go.Proofs.Ytbckoncbimljeaa
open Go.RowKit

noncomputable def paB (a1 : List Pr1) (x4 x6 : Int) : Int → Option (Int ⊕ (Unit ⊕ Int)) :=
(fun v7 =>
    bif (decide (v7 < (((List.length a1) : Nat) : Int))) then
     bif (decide (((0 : Int) ≤ v7) ∧ (v7 < (((List.length a1) : Nat) : Int)))) then 
      bindO a1[(Int.toNat v7)]? fun x8 =>
      bif (decide ((0 : Int) ≤ x4)) then 
       bif (decide ((Go.IntKind.wrap .u8 (((BitVec.toNat ((BitVec.ofInt 8 (Int.fdiv x8.1.1 ((2 : Int) ^ (Min.min (Int.toNat x4) 8)))) &&& (BitVec.ofInt 8 (1 : Int)))) : Nat) : Int)) = (1 : Int))) then
        bif (decide (x6 ≥ x8.1.2.1)) then
         bif (decide (x6 < x8.1.2.2)) then
          outO (outO (some v7))
         else
          some (Sum.inl (Go.IntKind.wrap .i64 (v7 + (1 : Int))))
        else
         some (Sum.inl (Go.IntKind.wrap .i64 (v7 + (1 : Int))))
       else
        some (Sum.inl (Go.IntKind.wrap .i64 (v7 + (1 : Int))))
      else none
     else none
    else
     outO (some (Sum.inl ())))
theorem priceAt_eq (a1 : List Pr1) (a2 : Int) : rating_priceAt (a1, a2) =

  bindO (some (Int.tmod (Go.IntKind.wrap .i64 (Int.tdiv a2 (86400000 : Int))) (7 : Int))) fun x4 =>
  bindO (some (Int.tmod (Go.IntKind.wrap .i64 (Int.tdiv a2 (60000 : Int))) (1440 : Int))) fun x6 =>
  joinO (loopO (paB a1 x4 x6) (0 : Int)) fun _ =>
  some (-1 : Int) := rfl
noncomputable def btB (a1 : Int) : (Int × Int) → Option ((Int × Int) ⊕ (Int ⊕ Int)) :=
(fun (v2, v3) =>
    bif (decide (v2 < a1)) then
     some (Sum.inl ((Go.IntKind.wrap .i64 (v2 + (1 : Int))), (Go.IntKind.wrap .i64 ((2 : Int) * v3))))
    else
     outO (some (Sum.inl v3)))
theorem bit_eq (a1 : Int) : dialtoneref37_bit a1 =

  joinO (loopO (btB a1) ((0 : Int), (1 : Int))) fun v6 =>
  some v6 := rfl
noncomputable def prcB (a5 : List Pr1) (a6 : Int) : Int → Option (Int ⊕ (Unit ⊕ (Int × Bool))) :=
(fun v8 =>
    bif (decide (v8 < (((List.length a5) : Nat) : Int))) then
     bif (decide (((0 : Int) ≤ v8) ∧ (v8 < (((List.length a5) : Nat) : Int)))) then 
      bindO a5[(Int.toNat v8)]? fun x9 =>
      bindO (dialtoneref37_Contains ((x9.1.1, (x9.1.2.1, x9.1.2.2)), a6)) fun x10 =>
      bif x10 then
       outO (outO (some (v8, Bool.true)))
      else
       some (Sum.inl (Go.IntKind.wrap .i64 (v8 + (1 : Int))))
     else none
    else
     outO (some (Sum.inl ())))
theorem priceR_eq (a1 : List UInt8) (a2 a3 a4 : Int) (a5 : List Pr1) (a6 : Int) : dialtoneref37_PriceAt ((a1, (a2, (a3, (a4, a5)))), a6) =

  joinO (bindO (dialtoneref37_Rate (a1, (a2, (a3, (a4, a5))))) fun x7 =>
   bif (!x7) then
    outO (some ((0 : Int), Bool.false))
   else
    bif (decide (a6 < (0 : Int))) then
     outO (some ((0 : Int), Bool.false))
    else
     bif (decide (a6 > (562949953421312 : Int))) then
      outO (some ((0 : Int), Bool.false))
     else
      some (Sum.inl ())) fun _ =>
  joinO (loopO (prcB a5 a6) (0 : Int)) fun _ =>
  some ((0 : Int), Bool.false) := rfl
def SE (a b : Int) : Int := if 0 ≤ a ∧ a ≤ b ∧ b ≤ 281474976710656 then (b - a + 999) / 1000 else 0
theorem secondsP_j (a b : Int) : rating_Seconds (a, b) = some (SE a b) := by
  unfold rating_Seconds SE
  by_cases h1 : 0 ≤ a ∧ a ≤ 281474976710656
  · by_cases h2 : a ≤ b ∧ b ≤ 281474976710656
    · rw [if_pos (show 0 ≤ a ∧ a ≤ b ∧ b ≤ 281474976710656 by omega)]
      simp (disch := omega) only [↓bindO_some, ↓bindO_none, ↓joinO_inl, ↓joinO_inr, ↓joinO_none, ↓outO_some, ↓outO_none, ↓cond_true, ↓cond_false, ↓cond_and, ↓cond_or, ↓cond_not, ↓cond_ite, ↓if_pos, ↓if_neg, ↓if_true, ↓if_false, List.take_length, Nat.le_refl, Bool.not_true, Bool.not_false, within_b, h1, h2, and_self, decide_true, wrap_i64']
      rw [Int.tdiv_eq_ediv_of_nonneg (by omega)]
      rw [wrap_i64' (by omega)]
    · rw [if_neg (by omega)]
      simp (disch := omega) only [↓bindO_some, ↓bindO_none, ↓joinO_inl, ↓joinO_inr, ↓joinO_none, ↓outO_some, ↓outO_none, ↓cond_true, ↓cond_false, ↓cond_and, ↓cond_or, ↓cond_not, ↓cond_ite, ↓if_pos, ↓if_neg, ↓if_true, ↓if_false, List.take_length, Nat.le_refl, Bool.not_true, Bool.not_false, within_b, h1, h2, and_self, decide_true, decide_false]
  · rw [if_neg (by omega)]
    simp (disch := omega) only [↓bindO_some, ↓bindO_none, ↓joinO_inl, ↓joinO_inr, ↓joinO_none, ↓outO_some, ↓outO_none, ↓cond_true, ↓cond_false, ↓cond_and, ↓cond_or, ↓cond_not, ↓cond_ite, ↓if_pos, ↓if_neg, ↓if_true, ↓if_false, List.take_length, Nat.le_refl, Bool.not_true, Bool.not_false, within_b, h1, decide_false]
abbrev Spn (a b : Int) : Prop := 0 ≤ a ∧ a ≤ b ∧ b ≤ 281474976710656
theorem span_b {β : Type} (a b : Int) (f : Bool → Option β) : bindO (dialtoneref37_Span (a, b)) f = f (decide (Spn a b)) := by
  have e : dialtoneref37_Span (a, b) = some (decide (Spn a b)) := by
    unfold dialtoneref37_Span
    by_cases h1 : 0 ≤ a
    · by_cases h2 : 0 ≤ b
      · by_cases h3 : a ≤ 281474976710656
        · by_cases h4 : b ≤ 281474976710656
          · simp (disch := omega) only [↓bindO_some, ↓bindO_none, ↓joinO_inl, ↓joinO_inr, ↓joinO_none, ↓outO_some, ↓outO_none, ↓cond_true, ↓cond_false, ↓cond_and, ↓cond_or, ↓cond_not, ↓cond_ite, ↓if_pos, ↓if_neg, ↓if_true, ↓if_false, List.take_length, Nat.le_refl, Bool.not_true, Bool.not_false, if_pos]
            exact congrArg some (decide_eq_decide.2 ⟨fun k => ⟨h1, k, h4⟩, fun k => k.2.1⟩)
          · simp (disch := omega) only [↓bindO_some, ↓bindO_none, ↓joinO_inl, ↓joinO_inr, ↓joinO_none, ↓outO_some, ↓outO_none, ↓cond_true, ↓cond_false, ↓cond_and, ↓cond_or, ↓cond_not, ↓cond_ite, ↓if_pos, ↓if_neg, ↓if_true, ↓if_false, List.take_length, Nat.le_refl, Bool.not_true, Bool.not_false, if_pos, if_neg]
            rw [decide_eq_false (show ¬ Spn a b by omega)]
        · simp (disch := omega) only [↓bindO_some, ↓bindO_none, ↓joinO_inl, ↓joinO_inr, ↓joinO_none, ↓outO_some, ↓outO_none, ↓cond_true, ↓cond_false, ↓cond_and, ↓cond_or, ↓cond_not, ↓cond_ite, ↓if_pos, ↓if_neg, ↓if_true, ↓if_false, List.take_length, Nat.le_refl, Bool.not_true, Bool.not_false, if_pos, if_neg]
          rw [decide_eq_false (show ¬ Spn a b by omega)]
      · simp (disch := omega) only [↓bindO_some, ↓bindO_none, ↓joinO_inl, ↓joinO_inr, ↓joinO_none, ↓outO_some, ↓outO_none, ↓cond_true, ↓cond_false, ↓cond_and, ↓cond_or, ↓cond_not, ↓cond_ite, ↓if_pos, ↓if_neg, ↓if_true, ↓if_false, List.take_length, Nat.le_refl, Bool.not_true, Bool.not_false, if_pos, if_neg]
        rw [decide_eq_false (show ¬ Spn a b by omega)]
    · simp (disch := omega) only [↓bindO_some, ↓bindO_none, ↓joinO_inl, ↓joinO_inr, ↓joinO_none, ↓outO_some, ↓outO_none, ↓cond_true, ↓cond_false, ↓cond_and, ↓cond_or, ↓cond_not, ↓cond_ite, ↓if_pos, ↓if_neg, ↓if_true, ↓if_false, List.take_length, Nat.le_refl, Bool.not_true, Bool.not_false, if_pos, if_neg]
      rw [decide_eq_false (show ¬ Spn a b by omega)]
  rw [e]; rfl
theorem secondsR_j (a b : Int) : dialtoneref37_Seconds (a, b) = some (SE a b) := by
  unfold dialtoneref37_Seconds SE
  by_cases h : Spn a b
  · rw [if_pos h]
    have h' := h
    obtain ⟨h1, h2, h3⟩ := h'
    simp (disch := omega) only [↓bindO_some, ↓bindO_none, ↓joinO_inl, ↓joinO_inr, ↓joinO_none, ↓outO_some, ↓outO_none, ↓cond_true, ↓cond_false, ↓cond_and, ↓cond_or, ↓cond_not, ↓cond_ite, ↓if_pos, ↓if_neg, ↓if_true, ↓if_false, List.take_length, Nat.le_refl, Bool.not_true, Bool.not_false, span_b, h, decide_true, wrap_i64']
    rw [Int.tdiv_eq_ediv_of_nonneg (by omega), Int.tmod_eq_emod_of_nonneg (by omega)]
    rw [wrap_i64' (n := (b - a) / 1000) (by omega)]
    by_cases k : (b - a) % 1000 > 0
    · rw [if_pos k, wrap_i64' (n := (b - a) / 1000 + 1) (by omega)]
      congr 1
      omega
    · rw [if_neg k]
      congr 1
      omega
  · rw [if_neg h]
    simp (disch := omega) only [↓bindO_some, ↓bindO_none, ↓joinO_inl, ↓joinO_inr, ↓joinO_none, ↓outO_some, ↓outO_none, ↓cond_true, ↓cond_false, ↓cond_and, ↓cond_or, ↓cond_not, ↓cond_ite, ↓if_pos, ↓if_neg, ↓if_true, ↓if_false, List.take_length, Nat.le_refl, Bool.not_true, Bool.not_false, span_b, h, decide_false]
theorem se_nn (a b : Int) : 0 ≤ SE a b ∧ SE a b ≤ 300000000000 := by
  unfold SE; split <;> omega
def wkd (a : Int) : Int := (a / 86400000) % 7
def mnt (a : Int) : Int := (a / 60000) % 1440
/-- A band contains a moment. -/
def CT (p : Pr1) (a : Int) : Prop := (p.1.1 / (2 : Int) ^ (wkd a).toNat) % 2 = 1 ∧ p.1.2.1 ≤ mnt a ∧ mnt a < p.1.2.2
instance (p : Pr1) (a : Int) : Decidable (CT p a) := by unfold CT; infer_instance
theorem wrap_u8' {n : Int} (h : 0 ≤ n ∧ n ≤ 255) : IntKind.wrap .u8 n = n := by
  show (if (false && decide (n % 256 ≥ 128)) = true then n % 256 - 256 else n % 256) = n
  simp only [Bool.false_and, Bool.false_eq_true, if_false]
  omega
theorem pow_pos' (k : Nat) : (0 : Int) < 2 ^ k := Int.pow_pos (by decide)
theorem bit_lem {d : Int} (k : Nat) (hd : 0 ≤ d ∧ d ≤ 255) (hk : k ≤ 8) : (Go.IntKind.wrap .u8 (((BitVec.toNat ((BitVec.ofInt 8 (Int.fdiv d ((2 : Int) ^ (Min.min k 8)))) &&& (BitVec.ofInt 8 (1 : Int)))) : Nat) : Int)) = (d / (2 : Int) ^ k) % 2 := by
  rw [show Min.min k 8 = k from by omega, Int.fdiv_eq_ediv_of_nonneg _ (by have := pow_pos' k; omega)]
  have h0 : 0 ≤ d / (2 : Int) ^ k := Int.ediv_nonneg hd.1 (by have := pow_pos' k; omega)
  have h1 : d / (2 : Int) ^ k ≤ d := Int.ediv_le_self _ hd.1
  generalize d / (2 : Int) ^ k = X at *
  rw [BitVec.toNat_and, BitVec.toNat_ofInt, BitVec.toNat_ofInt]
  have e1 : ((1 : Int) % ((2 ^ 8 : Nat) : Int)).toNat = 1 := rfl
  rw [e1, Nat.and_one_is_mod]
  have e2 : (X % ((2 ^ 8 : Nat) : Int)).toNat = X.toNat := by
    rw [Int.emod_eq_of_lt h0 (by show X < 256; omega)]
  rw [e2]
  have e3 : ((X.toNat % 2 : Nat) : Int) = X % 2 := by omega
  rw [e3]
  exact wrap_u8' (by omega)
theorem wk_j {a : Int} (h : 0 ≤ a ∧ a ≤ 4000000000000000000) : Int.tmod (Go.IntKind.wrap .i64 (Int.tdiv a (86400000 : Int))) (7 : Int) = wkd a := by
  rw [Int.tdiv_eq_ediv_of_nonneg h.1, wrap_i64' (by omega), Int.tmod_eq_emod_of_nonneg (by omega)]; rfl
theorem mn_j {a : Int} (h : 0 ≤ a ∧ a ≤ 4000000000000000000) : Int.tmod (Go.IntKind.wrap .i64 (Int.tdiv a (60000 : Int))) (1440 : Int) = mnt a := by
  rw [Int.tdiv_eq_ediv_of_nonneg h.1, wrap_i64' (by omega), Int.tmod_eq_emod_of_nonneg (by omega)]; rfl
theorem wkd_r (a : Int) : 0 ≤ wkd a ∧ wkd a ≤ 6 := by unfold wkd; omega
theorem mnt_r (a : Int) : 0 ≤ mnt a ∧ mnt a ≤ 1439 := by unfold mnt; omega
/-- The first band that contains a moment. -/
def PX (l : List Pr1) (a x : Int) : Prop := (x = -1 ∧ ∀ j, j < l.length → ¬ CT (l.getD j p0) a) ∨ ∃ i : Nat, i < l.length ∧ x = (i : Int) ∧ CT (l.getD i p0) a ∧ ∀ j, j < i → ¬ CT (l.getD j p0) a
theorem PX.uniq {l : List Pr1} {a x y : Int} (h : PX l a x) (k : PX l a y) : x = y := by
  rcases h with ⟨rfl, h⟩ | ⟨i, hi, rfl, hc, hn⟩ <;> rcases k with ⟨rfl, k⟩ | ⟨j, hj, rfl, kc, kn⟩
  · rfl
  · exact (h j hj kc).elim
  · exact (k i hi hc).elim
  · have : i = j := by
      rcases Nat.lt_trichotomy i j with g | g | g
      · exact (kn i g hc).elim
      · exact g
      · exact (hn j g kc).elim
    rw [this]
theorem priceAt_j {l : List Pr1} {a : Int} (hl : l.length ≤ 1000) (hp : Pks l) (ha : 0 ≤ a ∧ a ≤ 4000000000000000000) : ∃ x, rating_priceAt (l, a) = some x ∧ PX l a x := by
  rw [priceAt_eq]
  simp only [↓bindO_some, ↓bindO_none, ↓joinO_inl, ↓joinO_inr, ↓joinO_none, ↓outO_some, ↓outO_none, ↓cond_true, ↓cond_false, ↓cond_and, ↓cond_or, ↓cond_not, ↓cond_ite, ↓if_pos, ↓if_neg, ↓if_true, ↓if_false, List.take_length, Nat.le_refl, Bool.not_true, Bool.not_false, wk_j ha, mn_j ha]
  have hw := wkd_r a
  rcases loop_first (body := paB l (wkd a) (mnt a)) l.length (fun i => CT (l.getD i p0) a) (fun i => .inr (i : Int)) (.inl ())
    (fun i hi hb => by
      obtain ⟨x, hx, hxb⟩ := get_at p0 hi
      have hpi := hp i hi
      rw [hx] at hb hpi
      have hbl := bit_lem (d := x.1.1) (wkd a).toNat (by have := hpi.1; omega) (by omega)
      have hn : ((i : Int) + 1) = ((i + 1 : Nat) : Int) := rfl
      unfold paB
      simp (disch := (first | omega | (simp only [List.length_append, List.length_cons, List.length_nil, List.nil_append, List.length_take, List.length_drop]; omega))) only [↓bindO_some, ↓bindO_none, ↓joinO_inl, ↓joinO_inr, ↓joinO_none, ↓outO_some, ↓outO_none, ↓cond_true, ↓cond_false, ↓cond_and, ↓cond_or, ↓cond_not, ↓cond_ite, ↓if_pos, ↓if_neg, ↓if_true, ↓if_false, List.take_length, Nat.le_refl, Bool.not_true, Bool.not_false, if_pos, if_neg, ↓hxb, hbl, wrap_i64', hn]
      by_cases c1 : (x.1.1 / (2 : Int) ^ (wkd a).toNat) % 2 = 1
      · by_cases c2 : x.1.2.1 ≤ mnt a
        · have c3 : ¬ mnt a < x.1.2.2 := fun k => hb ⟨c1, c2, k⟩
          simp (disch := (first | omega | (simp only [List.length_append, List.length_cons, List.length_nil, List.nil_append, List.length_take, List.length_drop]; omega))) only [↓bindO_some, ↓bindO_none, ↓joinO_inl, ↓joinO_inr, ↓joinO_none, ↓outO_some, ↓outO_none, ↓cond_true, ↓cond_false, ↓cond_and, ↓cond_or, ↓cond_not, ↓cond_ite, ↓if_pos, ↓if_neg, ↓if_true, ↓if_false, List.take_length, Nat.le_refl, Bool.not_true, Bool.not_false, if_pos, if_neg, wrap_i64', hn]
        · simp (disch := (first | omega | (simp only [List.length_append, List.length_cons, List.length_nil, List.nil_append, List.length_take, List.length_drop]; omega))) only [↓bindO_some, ↓bindO_none, ↓joinO_inl, ↓joinO_inr, ↓joinO_none, ↓outO_some, ↓outO_none, ↓cond_true, ↓cond_false, ↓cond_and, ↓cond_or, ↓cond_not, ↓cond_ite, ↓if_pos, ↓if_neg, ↓if_true, ↓if_false, List.take_length, Nat.le_refl, Bool.not_true, Bool.not_false, if_pos, if_neg, wrap_i64', hn]
      · simp (disch := (first | omega | (simp only [List.length_append, List.length_cons, List.length_nil, List.nil_append, List.length_take, List.length_drop]; omega))) only [↓bindO_some, ↓bindO_none, ↓joinO_inl, ↓joinO_inr, ↓joinO_none, ↓outO_some, ↓outO_none, ↓cond_true, ↓cond_false, ↓cond_and, ↓cond_or, ↓cond_not, ↓cond_ite, ↓if_pos, ↓if_neg, ↓if_true, ↓if_false, List.take_length, Nat.le_refl, Bool.not_true, Bool.not_false, if_pos, if_neg, wrap_i64', hn])
    (fun i hi hb => by
      obtain ⟨x, hx, hxb⟩ := get_at p0 hi
      have hpi := hp i hi
      rw [hx] at hb hpi
      obtain ⟨c1, c2, c3⟩ := hb
      have hbl := bit_lem (d := x.1.1) (wkd a).toNat (by have := hpi.1; omega) (by omega)
      unfold paB
      simp (disch := (first | omega | (simp only [List.length_append, List.length_cons, List.length_nil, List.nil_append, List.length_take, List.length_drop]; omega))) only [↓bindO_some, ↓bindO_none, ↓joinO_inl, ↓joinO_inr, ↓joinO_none, ↓outO_some, ↓outO_none, ↓cond_true, ↓cond_false, ↓cond_and, ↓cond_or, ↓cond_not, ↓cond_ite, ↓if_pos, ↓if_neg, ↓if_true, ↓if_false, List.take_length, Nat.le_refl, Bool.not_true, Bool.not_false, if_pos, if_neg, ↓hxb, hbl])
    (by unfold paB; simp (disch := (first | omega | (simp only [List.length_append, List.length_cons, List.length_nil, List.nil_append, List.length_take, List.length_drop]; omega))) only [↓bindO_some, ↓bindO_none, ↓joinO_inl, ↓joinO_inr, ↓joinO_none, ↓outO_some, ↓outO_none, ↓cond_true, ↓cond_false, ↓cond_and, ↓cond_or, ↓cond_not, ↓cond_ite, ↓if_pos, ↓if_neg, ↓if_true, ↓if_false, List.take_length, Nat.le_refl, Bool.not_true, Bool.not_false, if_pos, if_neg]) with ⟨i, h1, h2, h3, e⟩ | ⟨h, e⟩
  · rw [e]; exact ⟨_, rfl, .inr ⟨i, h1, rfl, h2, h3⟩⟩
  · rw [e]; exact ⟨_, rfl, .inl ⟨rfl, h⟩⟩
theorem last_ct {p : Pr1} (h : Lst p) (a : Int) : CT p a := by
  obtain ⟨h1, h2, h3⟩ := h
  have hm := mnt_r a
  have hw := wkd_r a
  refine ⟨?_, by omega, by omega⟩
  rw [h1]
  obtain ⟨k, hk⟩ : ∃ k, (wkd a).toNat = k := ⟨_, rfl⟩
  rw [hk]
  have hk6 : k ≤ 6 := by omega
  have : k = 0 ∨ k = 1 ∨ k = 2 ∨ k = 3 ∨ k = 4 ∨ k = 5 ∨ k = 6 := by omega
  rcases this with rfl | rfl | rfl | rfl | rfl | rfl | rfl <;> decide
theorem PX.pos {l : List Pr1} {a x : Int} (hl : RVl l) (h : PX l a x) : ∃ i : Nat, i < l.length ∧ x = (i : Int) := by
  rcases h with ⟨rfl, h⟩ | ⟨i, hi, rfl, _⟩
  · exact (h (l.length - 1) (by have := hl.1; omega) (last_ct hl.2.2 a)).elim
  · exact ⟨i, hi, rfl⟩
theorem bit_j (k : Nat) (hk : k ≤ 8) : dialtoneref37_bit (k : Int) = some ((2 : Int) ^ k) := by
  rw [bit_eq]
  have e : loopO (btB (k : Int)) ((0 : Int), (1 : Int)) = some (.inl ((2 : Int) ^ k)) := by
    refine loopO_from (fun i => ((i : Int), (2 : Int) ^ i)) k rfl (fun i hi => ?_) ?_
    · have hp : (2 : Int) ^ (i + 1) = 2 * 2 ^ i := by rw [Int.pow_succ, Int.mul_comm]
      have hb : (2 : Int) ^ i ≤ 256 := by
        have : i = 0 ∨ i = 1 ∨ i = 2 ∨ i = 3 ∨ i = 4 ∨ i = 5 ∨ i = 6 ∨ i = 7 := by omega
        rcases this with rfl | rfl | rfl | rfl | rfl | rfl | rfl | rfl <;> decide
      have h0 := pow_pos' i
      have hn : ((i : Int) + 1) = ((i + 1 : Nat) : Int) := rfl
      unfold btB
      simp (disch := omega) only [↓bindO_some, ↓bindO_none, ↓joinO_inl, ↓joinO_inr, ↓joinO_none, ↓outO_some, ↓outO_none, ↓cond_true, ↓cond_false, ↓cond_and, ↓cond_or, ↓cond_not, ↓cond_ite, ↓if_pos, ↓if_neg, ↓if_true, ↓if_false, List.take_length, Nat.le_refl, Bool.not_true, Bool.not_false, if_pos, wrap_i64', hn, hp]
    · unfold btB
      simp (disch := omega) only [↓bindO_some, ↓bindO_none, ↓joinO_inl, ↓joinO_inr, ↓joinO_none, ↓outO_some, ↓outO_none, ↓cond_true, ↓cond_false, ↓cond_and, ↓cond_or, ↓cond_not, ↓cond_ite, ↓if_pos, ↓if_neg, ↓if_true, ↓if_false, List.take_length, Nat.le_refl, Bool.not_true, Bool.not_false, if_neg]
  rw [e]; rfl
theorem cont_b {β : Type} {x : Pr1} {a : Int} (hp : Pok x) (ha : 0 ≤ a ∧ a ≤ 4000000000000000000) (f : Bool → Option β) : bindO (dialtoneref37_Contains ((x.1.1, (x.1.2.1, x.1.2.2)), a)) f = f (decide (CT x a)) := by
  have e : dialtoneref37_Contains ((x.1.1, (x.1.2.1, x.1.2.2)), a) = some (decide (CT x a)) := by
    unfold dialtoneref37_Contains
    have hw := wkd_r a
    have hm := mnt_r a
    simp only [↓bindO_some, ↓bindO_none, ↓joinO_inl, ↓joinO_inr, ↓joinO_none, ↓outO_some, ↓outO_none, ↓cond_true, ↓cond_false, ↓cond_and, ↓cond_or, ↓cond_not, ↓cond_ite, ↓if_pos, ↓if_neg, ↓if_true, ↓if_false, List.take_length, Nat.le_refl, Bool.not_true, Bool.not_false, wk_j ha, mn_j ha]
    obtain ⟨k, hk⟩ : ∃ k : Nat, wkd a = (k : Int) := ⟨(wkd a).toNat, by omega⟩
    have hk' : (wkd a).toNat = k := by omega
    have h0 := pow_pos' k
    have hd := hp.1
    have d0 : 0 ≤ x.1.1 / (2 : Int) ^ k := Int.ediv_nonneg (by omega) (by omega)
    have d1 : x.1.1 / (2 : Int) ^ k ≤ x.1.1 := Int.ediv_le_self _ (by omega)
    rw [hk, bit_j k (by omega)]
    simp (disch := omega) only [↓bindO_some, ↓bindO_none, ↓joinO_inl, ↓joinO_inr, ↓joinO_none, ↓outO_some, ↓outO_none, ↓cond_true, ↓cond_false, ↓cond_and, ↓cond_or, ↓cond_not, ↓cond_ite, ↓if_pos, ↓if_neg, ↓if_true, ↓if_false, List.take_length, Nat.le_refl, Bool.not_true, Bool.not_false, ne_eq, wrap_i64', Int.tdiv_eq_ediv_of_nonneg]
    rw [Int.tmod_eq_emod_of_nonneg d0]
    have hct : CT x a ↔ (x.1.1 / (2 : Int) ^ k) % 2 = 1 ∧ x.1.2.1 ≤ mnt a ∧ mnt a < x.1.2.2 := by unfold CT; rw [hk']
    by_cases c1 : (x.1.1 / (2 : Int) ^ k) % 2 = 1
    · by_cases c2 : x.1.2.1 ≤ mnt a
      · rw [if_pos c1, if_pos c2]
        by_cases c3 : mnt a < x.1.2.2
        · rw [decide_eq_true c3, decide_eq_true (hct.2 ⟨c1, c2, c3⟩)]
        · rw [decide_eq_false c3, decide_eq_false (fun k => c3 (hct.1 k).2.2)]
      · rw [if_pos c1, if_neg c2, decide_eq_false (fun k => c2 (hct.1 k).2.1)]
    · rw [if_neg c1, decide_eq_false (fun k => c1 (hct.1 k).1)]
  rw [e]; rfl
theorem prc_loop {l : List Pr1} {a : Int} (hl : l.length ≤ 1000) (hp : Pks l) (ha : 0 ≤ a ∧ a ≤ 4000000000000000000) : (∃ i : Nat, PX l a (i : Int) ∧ loopO (prcB l a) (0 : Int) = some (.inr ((i : Int), true))) ∨ (PX l a (-1) ∧ loopO (prcB l a) (0 : Int) = some (.inl ())) := by
  rcases loop_first (body := prcB l a) l.length (fun i => CT (l.getD i p0) a) (fun i => .inr ((i : Int), true)) (.inl ())
    (fun i hi hb => by
      obtain ⟨x, hx, hxb⟩ := get_at p0 hi
      have hpi := hp i hi
      rw [hx] at hb hpi
      have hn : ((i : Int) + 1) = ((i + 1 : Nat) : Int) := rfl
      unfold prcB
      simp (disch := (first | omega | (simp only [List.length_append, List.length_cons, List.length_nil, List.nil_append, List.length_take, List.length_drop]; omega))) only [↓bindO_some, ↓bindO_none, ↓joinO_inl, ↓joinO_inr, ↓joinO_none, ↓outO_some, ↓outO_none, ↓cond_true, ↓cond_false, ↓cond_and, ↓cond_or, ↓cond_not, ↓cond_ite, ↓if_pos, ↓if_neg, ↓if_true, ↓if_false, List.take_length, Nat.le_refl, Bool.not_true, Bool.not_false, if_pos, if_neg, ↓hxb, cont_b hpi ha, hb, decide_false, wrap_i64', hn])
    (fun i hi hb => by
      obtain ⟨x, hx, hxb⟩ := get_at p0 hi
      have hpi := hp i hi
      rw [hx] at hb hpi
      unfold prcB
      simp (disch := (first | omega | (simp only [List.length_append, List.length_cons, List.length_nil, List.nil_append, List.length_take, List.length_drop]; omega))) only [↓bindO_some, ↓bindO_none, ↓joinO_inl, ↓joinO_inr, ↓joinO_none, ↓outO_some, ↓outO_none, ↓cond_true, ↓cond_false, ↓cond_and, ↓cond_or, ↓cond_not, ↓cond_ite, ↓if_pos, ↓if_neg, ↓if_true, ↓if_false, List.take_length, Nat.le_refl, Bool.not_true, Bool.not_false, if_pos, if_neg, ↓hxb, cont_b hpi ha, hb, decide_true])
    (by unfold prcB; simp (disch := (first | omega | (simp only [List.length_append, List.length_cons, List.length_nil, List.nil_append, List.length_take, List.length_drop]; omega))) only [↓bindO_some, ↓bindO_none, ↓joinO_inl, ↓joinO_inr, ↓joinO_none, ↓outO_some, ↓outO_none, ↓cond_true, ↓cond_false, ↓cond_and, ↓cond_or, ↓cond_not, ↓cond_ite, ↓if_pos, ↓if_neg, ↓if_true, ↓if_false, List.take_length, Nat.le_refl, Bool.not_true, Bool.not_false, if_pos, if_neg]) with ⟨i, h1, h2, h3, e⟩ | ⟨h, e⟩
  · exact .inl ⟨i, .inr ⟨i, h1, rfl, h2, h3⟩, e⟩
  · exact .inr ⟨.inl ⟨rfl, h⟩, e⟩
theorem validRate_t {r : Ra} (h : RV r) : rating_validRate (r.1, (r.2.1, (r.2.2.1, (r.2.2.2.1, r.2.2.2.2)))) = some true := by
  rcases validRate_j r.1 r.2.1 r.2.2.1 r.2.2.2.1 r.2.2.2.2 with ⟨_, e⟩ | ⟨k, _⟩
  · exact e
  · exact (k h).elim
theorem validRate_f {r : Ra} (h : ¬ RV r) : rating_validRate (r.1, (r.2.1, (r.2.2.1, (r.2.2.2.1, r.2.2.2.2)))) = some false := by
  rcases validRate_j r.1 r.2.1 r.2.2.1 r.2.2.2.1 r.2.2.2.2 with ⟨k, _⟩ | ⟨_, e⟩
  · exact (h k).elim
  · exact e
/-- The document's PriceAt, where a rate is valid. -/
theorem priceR_j {r : Ra} {a : Int} (h : RV r) (ha : 0 ≤ a ∧ a ≤ 562949953421312) : ∃ i : Nat, i < r.2.2.2.2.length ∧ PX r.2.2.2.2 a (i : Int) ∧ dialtoneref37_PriceAt ((r.1, (r.2.1, (r.2.2.1, (r.2.2.2.1, r.2.2.2.2)))), a) = some ((i : Int), true) := by
  rw [priceR_eq, rate_same, validRate_t h]
  simp (disch := omega) only [↓bindO_some, ↓bindO_none, ↓joinO_inl, ↓joinO_inr, ↓joinO_none, ↓outO_some, ↓outO_none, ↓cond_true, ↓cond_false, ↓cond_and, ↓cond_or, ↓cond_not, ↓cond_ite, ↓if_pos, ↓if_neg, ↓if_true, ↓if_false, List.take_length, Nat.le_refl, Bool.not_true, Bool.not_false, if_neg]
  rcases prc_loop (l := r.2.2.2.2) (a := a) (by have := h.2.2.1; omega) h.2.2.2.1 (by omega) with ⟨i, hx, e⟩ | ⟨hx, e⟩
  · obtain ⟨i', hi', e'⟩ := hx.pos h.2.2
    have : i = i' := by omega
    subst this
    rw [e]
    exact ⟨i, hi', hx, rfl⟩
  · obtain ⟨i', hi', e'⟩ := hx.pos h.2.2
    omega
theorem priceAt_same (r : Ra) (a : Int) : ∃ x, rating_PriceAt ((r.1, (r.2.1, (r.2.2.1, (r.2.2.2.1, r.2.2.2.2)))), a) = some x ∧ dialtoneref37_PriceAt ((r.1, (r.2.1, (r.2.2.1, (r.2.2.2.1, r.2.2.2.2)))), a) = some x := by
  have e : rating_PriceAt ((r.1, (r.2.1, (r.2.2.1, (r.2.2.2.1, r.2.2.2.2)))), a) = bindO (rating_validRate (r.1, (r.2.1, (r.2.2.1, (r.2.2.2.1, r.2.2.2.2))))) fun x7 => bif (!x7) then some ((0 : Int), Bool.false) else bindO (rating_within (a, ((0 : Int), (562949953421312 : Int)))) fun x8 => bif (!x8) then some ((0 : Int), Bool.false) else bindO (rating_priceAt (r.2.2.2.2, a)) fun x9 => bif (decide (x9 < (0 : Int))) then some ((0 : Int), Bool.false) else some (x9, Bool.true) := rfl
  by_cases h : RV r
  · by_cases ha : 0 ≤ a ∧ a ≤ 562949953421312
    · obtain ⟨i, hi, hx, e2⟩ := priceR_j h ha
      obtain ⟨x, e3, hx'⟩ := priceAt_j (l := r.2.2.2.2) (a := a) (by have := h.2.2.1; omega) h.2.2.2.1 (by omega)
      have := hx.uniq hx'
      subst this
      refine ⟨_, ?_, e2⟩
      rw [e, validRate_t h]
      simp (disch := omega) only [↓bindO_some, ↓bindO_none, ↓joinO_inl, ↓joinO_inr, ↓joinO_none, ↓outO_some, ↓outO_none, ↓cond_true, ↓cond_false, ↓cond_and, ↓cond_or, ↓cond_not, ↓cond_ite, ↓if_pos, ↓if_neg, ↓if_true, ↓if_false, List.take_length, Nat.le_refl, Bool.not_true, Bool.not_false, within_b, ha, and_self, decide_true, e3, if_neg]
    · refine ⟨((0 : Int), false), ?_, ?_⟩
      · rw [e, validRate_t h]
        simp (disch := omega) only [↓bindO_some, ↓bindO_none, ↓joinO_inl, ↓joinO_inr, ↓joinO_none, ↓outO_some, ↓outO_none, ↓cond_true, ↓cond_false, ↓cond_and, ↓cond_or, ↓cond_not, ↓cond_ite, ↓if_pos, ↓if_neg, ↓if_true, ↓if_false, List.take_length, Nat.le_refl, Bool.not_true, Bool.not_false, within_b, ha, decide_false]
      · rw [priceR_eq, rate_same, validRate_t h]
        rcases Int.lt_or_le a 0 with k | k
        · simp (disch := omega) only [↓bindO_some, ↓bindO_none, ↓joinO_inl, ↓joinO_inr, ↓joinO_none, ↓outO_some, ↓outO_none, ↓cond_true, ↓cond_false, ↓cond_and, ↓cond_or, ↓cond_not, ↓cond_ite, ↓if_pos, ↓if_neg, ↓if_true, ↓if_false, List.take_length, Nat.le_refl, Bool.not_true, Bool.not_false, if_pos]
        · simp (disch := omega) only [↓bindO_some, ↓bindO_none, ↓joinO_inl, ↓joinO_inr, ↓joinO_none, ↓outO_some, ↓outO_none, ↓cond_true, ↓cond_false, ↓cond_and, ↓cond_or, ↓cond_not, ↓cond_ite, ↓if_pos, ↓if_neg, ↓if_true, ↓if_false, List.take_length, Nat.le_refl, Bool.not_true, Bool.not_false, if_neg, if_pos]
  · refine ⟨((0 : Int), false), ?_, ?_⟩
    · rw [e, validRate_f h]; rfl
    · rw [priceR_eq, rate_same, validRate_f h]; rfl
end Go.Proofs.Ytbckoncbimljeaa
