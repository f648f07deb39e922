/- Chapter 18, plain: possible senders. -/
import Derived.Test.YtonejiaiieiboaaY1
import Derived.Test.YtonejiaiieiboaaZ1
set_option linter.unusedVariables false
set_option linter.unusedSimpArgs false
namespace Go.Proofs.Ytonejiaiieiboaa
open Go.RowKit

abbrev Pc (x : Int) : Prop := 101 ≤ x ∧ x ≤ 199
abbrev Ac (x : Int) : Prop := 200 ≤ x ∧ x ≤ 299
theorem loopO_next {υ β : Type} {body : υ → Option (υ ⊕ β)} {x y : υ} (h : body x = some (.inl y)) : loopO body x = loopO body y := by
  rw [loopO_eq, h]
theorem loopO_stop {υ β : Type} {body : υ → Option (υ ⊕ β)} {x : υ} {r : β} (h : body x = some (.inr r)) : loopO body x = some r := by
  rw [loopO_eq, h]
theorem prov_j (x : Int) : provisional_isProvisional x = some (decide (Pc x)) := by
  unfold provisional_isProvisional
  rw [cond_ite]
  split <;> (congr 1; rw [Bool.eq_iff_iff]; simp [Pc]; omega)
theorem acc_j (x : Int) : provisional_isAccepting x = some (decide (Ac x)) := by
  unfold provisional_isAccepting
  rw [cond_ite]
  split <;> (congr 1; rw [Bool.eq_iff_iff]; simp [Ac]; omega)
theorem from_j (x a b : Int) : dialtoneref12_From (x, (a, b)) = some (decide (a ≤ x ∧ x ≤ b)) := by
  unfold dialtoneref12_From
  simp only
  rw [cond_ite]
  split <;> (congr 1; rw [Bool.eq_iff_iff]; simp; omega)
/-- T1 times a power of two. -/
def Wt (w : Int) : Prop := w = 500 ∨ w = 1000 ∨ w = 2000 ∨ w = 4000 ∨ w = 8000 ∨ w = 16000 ∨ w = 32000
instance (w : Int) : Decidable (Wt w) := by unfold Wt; infer_instance
noncomputable def wBody (a1 : Int) : Int → Option (Int ⊕ (Unit ⊕ Bool)) := fun v2 => if v2 ≤ 32000 then if v2 = a1 then some (.inr (.inr true)) else some (.inl (IntKind.wrap .i64 (v2 * 2))) else some (.inr (.inl ()))
theorem w1 (a x : Int) (h : x ≠ a) (hx : 0 ≤ x ∧ x ≤ 32000) : loopO (wBody a) x = loopO (wBody a) (x * 2) := loopO_next (by unfold wBody; rw [if_pos hx.2, if_neg h, wrap_i64' (by omega)])
theorem w2 (a x : Int) (h : x = a) (hx : x ≤ 32000) : loopO (wBody a) x = some (.inr true) := loopO_stop (by unfold wBody; rw [if_pos hx, if_pos h])
theorem w3 (a x : Int) (hx : 32000 < x) : loopO (wBody a) x = some (.inl ()) := loopO_stop (by unfold wBody; rw [if_neg (by omega)])
theorem wAll (a : Int) : (Wt a ∧ loopO (wBody a) 500 = some (.inr true)) ∨ (¬ Wt a ∧ loopO (wBody a) 500 = some (.inl ())) := by
  by_cases h : Wt a
  · left
    refine ⟨h, ?_⟩
    rcases h with rfl | rfl | rfl | rfl | rfl | rfl | rfl
    · exact w2 _ _ rfl (by omega)
    all_goals repeat first | exact w2 _ _ rfl (by omega) | rw [w1 _ _ (by omega) (by omega)]
  · right
    refine ⟨h, ?_⟩
    unfold Wt at h
    rw [w1 _ _ (by omega) (by omega), w1 _ _ (by omega) (by omega), w1 _ _ (by omega) (by omega), w1 _ _ (by omega) (by omega), w1 _ _ (by omega) (by omega), w1 _ _ (by omega) (by omega), w1 _ _ (by omega) (by omega), w3 _ _ (by omega)]
theorem mayWait_j (a : Int) : provisional_mayWait a = some (decide (Wt a)) := by
  have e : provisional_mayWait a = joinO (loopO (wBody a) 500) fun _ => some false := by
    unfold provisional_mayWait wBody
    simp only [cond_ite, outO_some]
  rw [e]
  rcases wAll a with ⟨h, k⟩ | ⟨h, k⟩
  · rw [k, decide_eq_true h]; rfl
  · rw [k, decide_eq_false h]; rfl
theorem wait_j (a : Int) : dialtoneref18_wait a = some (decide (Wt a)) := by
  have e : dialtoneref18_wait a = joinO (loopO (wBody a) 500) fun _ => some false := by
    unfold dialtoneref18_wait wBody
    simp only [cond_ite, outO_some, eq_comm (a := a), Int.mul_comm (2 : Int)]
  rw [e]
  rcases wAll a with ⟨h, k⟩ | ⟨h, k⟩
  · rw [k, decide_eq_true h]; rfl
  · rw [k, decide_eq_false h]; rfl
/-- A queue in order. -/
def QuOk (q : List Int) (fin : Bool) : Prop := (∀ i, i < q.length - fin.toNat → Pc (q.getD i 0)) ∧ (fin = true → ∀ i, i + 1 = q.length → Ac (q.getD i 0))
noncomputable def mBody (a4 : List Int) (a5 : Bool) : Int × Int → Option ((Int × Int) ⊕ (Int ⊕ Bool)) :=
fun (v9, v10) =>
          bif (decide (v9 < (((List.length a4) : Nat) : Int))) then
           bif (decide (((0 : Int) ≤ v9) ∧ (v9 < (((List.length a4) : Nat) : Int)))) then 
            bindO a4[(Int.toNat v9)]? fun x11 =>
            bif a5 then
             bif (decide (v9 = (Go.IntKind.wrap .i64 ((((List.length a4) : Nat) : Int) - (1 : Int))))) then
              bindO (provisional_isAccepting x11) fun x13 =>
              bif (!x13) then
               outO (outO (some Bool.false))
              else
               outO (some (Sum.inl v10))
             else
              bindO (provisional_isProvisional x11) fun x14 =>
              bif (!x14) then
               outO (outO (some Bool.false))
              else
               some (Sum.inl ((Go.IntKind.wrap .i64 (v9 + (1 : Int))), (Go.IntKind.wrap .i64 (v10 + (1 : Int)))))
            else
             bindO (provisional_isProvisional x11) fun x17 =>
             bif (!x17) then
              outO (outO (some Bool.false))
             else
              some (Sum.inl ((Go.IntKind.wrap .i64 (v9 + (1 : Int))), (Go.IntKind.wrap .i64 (v10 + (1 : Int)))))
           else none
          else
           outO (some (Sum.inl v10))
noncomputable def rBody (a4 : List Int) (a5 : Bool) : Int × Int → Option ((Int × Int) ⊕ (Int ⊕ Bool)) :=
fun (v9, v10) =>
              bif (decide (v9 < (((List.length a4) : Nat) : Int))) then
               bif a5 then
                bindO (some (Go.IntKind.wrap .i64 ((((List.length a4) : Nat) : Int) - (1 : Int)))) fun x11 =>
                joinO (bif (!(decide (v9 = x11))) then
                  some (Sum.inl (Go.IntKind.wrap .i64 (v10 + (1 : Int))))
                 else
                  some (Sum.inl v10)) fun v13 =>
                bif (decide (v9 = x11)) then
                 bif (decide (((0 : Int) ≤ v9) ∧ (v9 < (((List.length a4) : Nat) : Int)))) then 
                  bindO a4[(Int.toNat v9)]? fun x14 =>
                  bindO (dialtoneref12_From (x14, ((200 : Int), (299 : Int)))) fun x15 =>
                  bif (!x15) then
                   outO (outO (some Bool.false))
                  else
                   bif (!(decide (v9 = x11))) then
                    bif (decide (((0 : Int) ≤ v9) ∧ (v9 < (((List.length a4) : Nat) : Int)))) then 
                     bindO a4[(Int.toNat v9)]? fun x16 =>
                     bindO (dialtoneref12_From (x16, ((101 : Int), (199 : Int)))) fun x17 =>
                     bif (!x17) then
                      outO (outO (some Bool.false))
                     else
                      some (Sum.inl ((Go.IntKind.wrap .i64 (v9 + (1 : Int))), v13))
                    else none
                   else
                    some (Sum.inl ((Go.IntKind.wrap .i64 (v9 + (1 : Int))), v13))
                 else none
                else
                 bif (!(decide (v9 = x11))) then
                  bif (decide (((0 : Int) ≤ v9) ∧ (v9 < (((List.length a4) : Nat) : Int)))) then 
                   bindO a4[(Int.toNat v9)]? fun x20 =>
                   bindO (dialtoneref12_From (x20, ((101 : Int), (199 : Int)))) fun x21 =>
                   bif (!x21) then
                    outO (outO (some Bool.false))
                   else
                    some (Sum.inl ((Go.IntKind.wrap .i64 (v9 + (1 : Int))), v13))
                  else none
                 else
                  some (Sum.inl ((Go.IntKind.wrap .i64 (v9 + (1 : Int))), v13))
               else
                joinO (some (Sum.inl (Go.IntKind.wrap .i64 (v10 + (1 : Int))))) fun v25 =>
                bif (decide (((0 : Int) ≤ v9) ∧ (v9 < (((List.length a4) : Nat) : Int)))) then 
                 bindO a4[(Int.toNat v9)]? fun x26 =>
                 bindO (dialtoneref12_From (x26, ((101 : Int), (199 : Int)))) fun x27 =>
                 bif (!x27) then
                  outO (outO (some Bool.false))
                 else
                  some (Sum.inl ((Go.IntKind.wrap .i64 (v9 + (1 : Int))), v25))
                else none
              else
               outO (some (Sum.inl v10))
open Classical in
theorem mQ (q : List Int) (fin : Bool) (hq : q.length ≤ 16) : (QuOk q fin ∧ loopO (mBody q fin) (0, 0) = some (.inl ((q.length - fin.toNat : Nat) : Int))) ∨ (¬ QuOk q fin ∧ loopO (mBody q fin) (0, 0) = some (.inr false)) := by
  have hs := loopO_search (body := mBody q fin) (fun i => ((i : Int), (i : Int))) (q.length - fin.toNat) (fun i => ¬ Pc (q.getD i 0)) (r0 := if (fin = true → ∀ i, i + 1 = q.length → Ac (q.getD i 0)) then .inl ((q.length - fin.toNat : Nat) : Int) else .inr false) (r1 := .inr false) (x := (0, 0)) rfl
    (fun i hi hb => by
      have hb : Pc (q.getD i 0) := by simpa using hb
      unfold mBody
      cases fin <;> simp only [Bool.toNat_false, Bool.toNat_true] at hi
      · simp (disch := omega) only [bindO_some, bindO_none, joinO_inl, joinO_inr, joinO_none, outO_some, outO_none, cond_ite, List.take_length, Nat.le_refl, if_true, Nat.mul_one, Int.mul_one, cond_true, cond_false, if_pos, if_neg, get_D' (0 : Int), Int.toNat_natCast, wrap_i64', prov_j, decide_eq_true hb, Bool.not_true]
        congr 2
      · simp (disch := omega) only [bindO_some, bindO_none, joinO_inl, joinO_inr, joinO_none, outO_some, outO_none, cond_ite, List.take_length, Nat.le_refl, if_true, Nat.mul_one, Int.mul_one, cond_true, cond_false, if_pos, if_neg, get_D' (0 : Int), Int.toNat_natCast, wrap_i64', prov_j, decide_eq_true hb, Bool.not_true]
        congr 2)
    (fun i hi hb => by
      unfold mBody
      cases fin <;> simp only [Bool.toNat_false, Bool.toNat_true] at hi
      · simp (disch := omega) only [bindO_some, bindO_none, joinO_inl, joinO_inr, joinO_none, outO_some, outO_none, cond_ite, List.take_length, Nat.le_refl, if_true, Nat.mul_one, Int.mul_one, cond_true, cond_false, if_pos, if_neg, get_D' (0 : Int), Int.toNat_natCast, wrap_i64', prov_j, decide_eq_false hb, Bool.not_false]
      · simp (disch := omega) only [bindO_some, bindO_none, joinO_inl, joinO_inr, joinO_none, outO_some, outO_none, cond_ite, List.take_length, Nat.le_refl, if_true, Nat.mul_one, Int.mul_one, cond_true, cond_false, if_pos, if_neg, get_D' (0 : Int), Int.toNat_natCast, wrap_i64', prov_j, decide_eq_false hb, Bool.not_false])
    (by
      unfold mBody
      cases fin
      · simp (disch := simp) only [bindO_some, bindO_none, joinO_inl, joinO_inr, joinO_none, outO_some, outO_none, cond_ite, List.take_length, Nat.le_refl, if_true, Nat.mul_one, Int.mul_one, cond_true, cond_false, if_pos, if_neg, Bool.toNat_false, Nat.sub_zero]
        try rfl
      · by_cases h0 : q.length = 0
        · rw [if_pos (fun _ i hi => by omega)]
          simp (disch := omega) only [bindO_some, bindO_none, joinO_inl, joinO_inr, joinO_none, outO_some, outO_none, cond_ite, List.take_length, Nat.le_refl, if_true, Nat.mul_one, Int.mul_one, cond_true, cond_false, if_pos, if_neg, Bool.toNat_true]
        · simp (disch := omega) only [bindO_some, bindO_none, joinO_inl, joinO_inr, joinO_none, outO_some, outO_none, cond_ite, List.take_length, Nat.le_refl, if_true, Nat.mul_one, Int.mul_one, cond_true, cond_false, if_pos, if_neg, Bool.toNat_true, get_D' (0 : Int), Int.toNat_natCast, wrap_i64', acc_j]
          by_cases ha : Ac (q.getD (q.length - 1) 0)
          · rw [if_pos (fun _ i hi => by rw [show i = q.length - 1 from by omega]; exact ha), decide_eq_true ha]
            rfl
          · rw [if_neg (fun h => ha (h (by simp) _ (by omega))), decide_eq_false ha]
            rfl)
  rcases hs with ⟨⟨i, h1, h2⟩, e⟩ | ⟨h, e⟩
  · exact .inr ⟨fun k => h2 (k.1 i h1), e⟩
  · have hP : ∀ i, i < q.length - fin.toNat → Pc (q.getD i 0) := fun i hi => Classical.byContradiction fun hb => h ⟨i, hi, hb⟩
    by_cases hA : fin = true → ∀ i, i + 1 = q.length → Ac (q.getD i 0)
    · rw [if_pos hA] at e; exact .inl ⟨⟨hP, hA⟩, e⟩
    · rw [if_neg hA] at e; exact .inr ⟨fun k => hA k.2, e⟩
theorem rQ (q : List Int) (fin : Bool) (hq : q.length ≤ 16) : (QuOk q fin ∧ loopO (rBody q fin) (0, 0) = some (.inl ((q.length - fin.toNat : Nat) : Int))) ∨ (¬ QuOk q fin ∧ loopO (rBody q fin) (0, 0) = some (.inr false)) := by
  have hs := loopO_search (body := rBody q fin) (fun i => ((i : Int), ((min i (q.length - fin.toNat) : Nat) : Int))) q.length (fun i => ¬ (if fin = true ∧ i + 1 = q.length then Ac (q.getD i 0) else Pc (q.getD i 0))) (r0 := .inl ((q.length - fin.toNat : Nat) : Int)) (r1 := .inr false) (x := (0, 0)) (by simp)
    (fun i hi hb => by
      have hb := Classical.not_not.1 hb
      unfold rBody
      cases fin
      · rw [if_neg (by simp)] at hb
        simp (disch := omega) only [bindO_some, bindO_none, joinO_inl, joinO_inr, joinO_none, outO_some, outO_none, cond_ite, List.take_length, Nat.le_refl, if_true, Nat.mul_one, Int.mul_one, cond_true, cond_false, if_pos, if_neg, get_D' (0 : Int), Int.toNat_natCast, wrap_i64', from_j, decide_eq_true hb, Bool.not_true, Bool.toNat_false, Nat.sub_zero]
        congr 2
        simp only [Prod.mk.injEq]; omega
      · by_cases hl : i + 1 = q.length
        · rw [if_pos ⟨rfl, hl⟩] at hb
          simp (disch := omega) only [bindO_some, bindO_none, joinO_inl, joinO_inr, joinO_none, outO_some, outO_none, cond_ite, List.take_length, Nat.le_refl, if_true, Nat.mul_one, Int.mul_one, cond_true, cond_false, if_pos, if_neg, get_D' (0 : Int), Int.toNat_natCast, wrap_i64', from_j, decide_eq_true hb, decide_eq_true (show ((i : Int) = (q.length : Int) - 1) by omega), Bool.not_true, Bool.toNat_true]
          congr 2
          simp only [Prod.mk.injEq]; omega
        · rw [if_neg (by simp [hl])] at hb
          simp (disch := omega) only [bindO_some, bindO_none, joinO_inl, joinO_inr, joinO_none, outO_some, outO_none, cond_ite, List.take_length, Nat.le_refl, if_true, Nat.mul_one, Int.mul_one, cond_true, cond_false, if_pos, if_neg, get_D' (0 : Int), Int.toNat_natCast, wrap_i64', from_j, decide_eq_true hb, decide_eq_false (show ¬ ((i : Int) = (q.length : Int) - 1) by omega), Bool.not_true, Bool.not_false, Bool.toNat_true]
          congr 2
          simp only [Prod.mk.injEq]; omega)
    (fun i hi hb => by
      unfold rBody
      cases fin
      · rw [if_neg (by simp)] at hb
        simp (disch := omega) only [bindO_some, bindO_none, joinO_inl, joinO_inr, joinO_none, outO_some, outO_none, cond_ite, List.take_length, Nat.le_refl, if_true, Nat.mul_one, Int.mul_one, cond_true, cond_false, if_pos, if_neg, get_D' (0 : Int), Int.toNat_natCast, wrap_i64', from_j, decide_eq_false hb, Bool.not_false, Bool.toNat_false, Nat.sub_zero]
      · by_cases hl : i + 1 = q.length
        · rw [if_pos ⟨rfl, hl⟩] at hb
          simp (disch := omega) only [bindO_some, bindO_none, joinO_inl, joinO_inr, joinO_none, outO_some, outO_none, cond_ite, List.take_length, Nat.le_refl, if_true, Nat.mul_one, Int.mul_one, cond_true, cond_false, if_pos, if_neg, get_D' (0 : Int), Int.toNat_natCast, wrap_i64', from_j, decide_eq_false hb, decide_eq_true (show ((i : Int) = (q.length : Int) - 1) by omega), Bool.not_true, Bool.not_false, Bool.toNat_true]
        · rw [if_neg (by simp [hl])] at hb
          simp (disch := omega) only [bindO_some, bindO_none, joinO_inl, joinO_inr, joinO_none, outO_some, outO_none, cond_ite, List.take_length, Nat.le_refl, if_true, Nat.mul_one, Int.mul_one, cond_true, cond_false, if_pos, if_neg, get_D' (0 : Int), Int.toNat_natCast, wrap_i64', from_j, decide_eq_false hb, decide_eq_false (show ¬ ((i : Int) = (q.length : Int) - 1) by omega), Bool.not_true, Bool.not_false, Bool.toNat_true])
    (by
      unfold rBody
      simp (disch := omega) only [bindO_some, bindO_none, joinO_inl, joinO_inr, joinO_none, outO_some, outO_none, cond_ite, List.take_length, Nat.le_refl, if_true, Nat.mul_one, Int.mul_one, cond_true, cond_false, if_pos, if_neg]
      congr 3; omega)
  rcases hs with ⟨⟨i, h1, h2⟩, e⟩ | ⟨h, e⟩
  · refine .inr ⟨fun k => h2 ?_, e⟩
    split
    · rename_i hf; exact k.2 hf.1 i hf.2
    · rename_i hf
      refine k.1 i ?_
      cases fin
      · simpa using h1
      · have : ¬ i + 1 = q.length := fun hh => hf ⟨rfl, hh⟩
        simp only [Bool.toNat_true]; omega
  · refine .inl ⟨⟨fun i hi => ?_, fun hf i hi => ?_⟩, e⟩
    · have := Classical.byContradiction fun hb => h ⟨i, by omega, hb⟩
      cases fin
      · rw [if_neg (by simp)] at this; exact this
      · simp only [Bool.toNat_true] at hi
        rw [if_neg (by intro hh; omega)] at this; exact this
    · have := Classical.byContradiction fun hb => h ⟨i, by omega, hb⟩
      rw [if_pos ⟨hf, hi⟩] at this
      exact this
end Go.Proofs.Ytonejiaiieiboaa
