/- Chapter 18, plain: the steps. -/
import Derived.Test.YtonejiaiieiboaaJ3
import Derived.Test.YtonejiaiieiboaaZ2
set_option linter.unusedVariables false
set_option linter.unusedSimpArgs false
namespace Go.Proofs.Ytonejiaiieiboaa
open Go.RowKit

noncomputable def sBody (a b : List Int) : Int → Option (Int ⊕ (Unit ⊕ Bool)) := fun v => if v < (a.length : Int) then if 0 ≤ v ∧ v < (a.length : Int) then bindO a[v.toNat]? fun x4 => if 0 ≤ v ∧ v < (b.length : Int) then bindO b[v.toNat]? fun x5 => if x4 ≠ x5 then some (.inr (.inr false)) else some (.inl (IntKind.wrap .i64 (v + 1))) else none else none else some (.inr (.inl ()))
theorem sRun (a b : List Int) (h : a.length = b.length) (hl : a.length ≤ 1000000) : (a = b ∧ loopO (sBody a b) 0 = some (.inl ())) ∨ (a ≠ b ∧ loopO (sBody a b) 0 = some (.inr false)) := by
  have hs := loopO_search (body := sBody a b) (fun i => (i : Int)) a.length (fun i => a.getD i 0 ≠ b.getD i 0) (r0 := .inl ()) (r1 := .inr false) (x := 0) rfl
    (fun i hi hb => by
      have hb := Classical.not_not.1 hb
      unfold sBody
      simp (disch := omega) only [↓bindO_some, ↓bindO_none, ↓joinO_inl, ↓joinO_inr, ↓joinO_none, ↓outO_some, ↓outO_none, ↓cond_true, ↓cond_false, ↓cond_and, ↓cond_or, ↓cond_not, ↓cond_ite, ↓if_pos, ↓if_neg, ↓if_true, ↓if_false, List.take_length, Nat.le_refl, Bool.not_true, Bool.not_false, get_D' (0 : Int), Int.toNat_natCast, wrap_i64', ne_eq, hb, not_true_eq_false]
      try rfl)
    (fun i hi hb => by
      unfold sBody
      simp (disch := omega) only [↓bindO_some, ↓bindO_none, ↓joinO_inl, ↓joinO_inr, ↓joinO_none, ↓outO_some, ↓outO_none, ↓cond_true, ↓cond_false, ↓cond_and, ↓cond_or, ↓cond_not, ↓cond_ite, ↓if_pos, ↓if_neg, ↓if_true, ↓if_false, List.take_length, Nat.le_refl, Bool.not_true, Bool.not_false, get_D' (0 : Int), Int.toNat_natCast, wrap_i64']
      try rw [if_pos hb])
    (by unfold sBody; rw [if_neg (by omega)])
  rcases hs with ⟨⟨i, h1, h2⟩, e⟩ | ⟨hn, e⟩
  · exact .inr ⟨fun k => h2 (by rw [k]), e⟩
  · refine .inl ⟨List.ext_getElem h fun i h1 h2 => ?_, e⟩
    have := Classical.byContradiction fun hb => hn ⟨i, h1, hb⟩
    rw [getD_get 0 h1, getD_get 0 h2] at this
    exact this
theorem equal_j (a b : List Int) (hl : a.length ≤ 1000000) : slices_Equal___int_int (a, b) = some (decide (a = b)) := by
  have e : slices_Equal___int_int (a, b) = if (a.length : Int) ≠ (b.length : Int) then some false else joinO (loopO (sBody a b) 0) fun _ => some true := by
    unfold slices_Equal___int_int sBody
    simp only [cond_ite, outO_some]
  rw [e]
  by_cases h : a.length = b.length
  · rw [if_neg (by omega)]
    rcases sRun a b h hl with ⟨k, r⟩ | ⟨k, r⟩
    · rw [r, decide_eq_true k]; rfl
    · rw [r, decide_eq_false k]; rfl
  · rw [if_pos (by omega), decide_eq_false (fun k => h (by rw [k]))]
def eqRel (a1 a2 a3 : Int) (a4 : List Int) (a5 a6 : Bool) (a7 a8 a9 : Int) (a10 : List Int) (a11 a12 : Bool) : Bool := decide (a1 = a7 ∧ a2 = a8 ∧ a3 = a9 ∧ a4 = a10 ∧ a5 = a11 ∧ a6 = a12)
theorem same_j (a1 a2 a3 : Int) (a4 : List Int) (a5 a6 : Bool) (a7 a8 a9 : Int) (a10 : List Int) (a11 a12 : Bool) (hl : a4.length ≤ 1000000) :
    provisional_Same ((a1, (a2, (a3, (a4, (a5, a6))))), (a7, (a8, (a9, (a10, (a11, a12)))))) = some (eqRel a1 a2 a3 a4 a5 a6 a7 a8 a9 a10 a11 a12) := by
  unfold provisional_Same eqRel
  simp only [equal_j _ _ hl, bindO_some, bindO_none, joinO_inl, joinO_inr, joinO_none, outO_some, outO_none, cond_ite, List.take_length, Nat.le_refl, if_true, Nat.mul_one, Int.mul_one, cond_true, cond_false]
  by_cases h1 : a1 = a7 <;> by_cases h2 : a2 = a8 <;> by_cases h3 : a3 = a9 <;> by_cases h4 : a4 = a10 <;> cases a5 <;> cases a11 <;> cases a6 <;> cases a12 <;> simp [h1, h2, h3, h4]
theorem sameR_j (a1 a2 a3 : Int) (a4 : List Int) (a5 a6 : Bool) (a7 a8 a9 : Int) (a10 : List Int) (a11 a12 : Bool) (hl : a4.length ≤ 1000000) :
    dialtoneref18_Same ((a1, (a2, (a3, (a4, (a5, a6))))), (a7, (a8, (a9, (a10, (a11, a12)))))) = some (eqRel a1 a2 a3 a4 a5 a6 a7 a8 a9 a10 a11 a12) := by
  have e : dialtoneref18_Same ((a1, (a2, (a3, (a4, (a5, a6))))), (a7, (a8, (a9, (a10, (a11, a12)))))) = if a1 ≠ a7 then some false else if a2 ≠ a8 then some false else if a3 ≠ a9 then some false else bif a5 != a11 then some false else bif a6 != a12 then some false else if (a4.length : Int) ≠ (a10.length : Int) then some false else joinO (loopO (sBody a4 a10) 0) fun _ => some true := by
    unfold dialtoneref18_Same sBody
    simp only [cond_ite, outO_some]
  rw [e]
  unfold eqRel
  by_cases h1 : a1 = a7
  · by_cases h2 : a2 = a8
    · by_cases h3 : a3 = a9
      · by_cases h : a4.length = a10.length
        · rcases sRun a4 a10 h hl with ⟨k, r⟩ | ⟨k, r⟩
          · rw [r]; cases a5 <;> cases a11 <;> cases a6 <;> cases a12 <;> simp [h1, h2, h3, k, joinO]
          · rw [r]; cases a5 <;> cases a11 <;> cases a6 <;> cases a12 <;> simp [h1, h2, h3, k, joinO, h]
        · have k : a4 ≠ a10 := fun k => h (by rw [k])
          have h' : ¬ (a4.length : Int) = (a10.length : Int) := by omega
          cases a5 <;> cases a11 <;> cases a6 <;> cases a12 <;> simp [h1, h2, h3, k, h']
      · simp [h1, h2, h3]
    · simp [h1, h2]
  · simp [h1]
theorem eqRel_refl (a1 a2 a3 : Int) (a4 : List Int) (a5 a6 : Bool) : eqRel a1 a2 a3 a4 a5 a6 a1 a2 a3 a4 a5 a6 = true := by simp [eqRel]
theorem outs_j (l : List Out18) (h : l.length ≤ 1000000) : dialtoneref18_Outs (l, l) = some true := by
  unfold dialtoneref18_Outs
  simp only [cond_ite, outO_some, ne_eq, not_true_eq_false, if_false]
  refine joinO_eq (loopO_from (fun i => (i : Int)) l.length rfl (fun i hi => ?_) (r := Sum.inl ()) ?_) rfl
  · simp (disch := omega) only [↓bindO_some, ↓bindO_none, ↓joinO_inl, ↓joinO_inr, ↓joinO_none, ↓outO_some, ↓outO_none, ↓cond_true, ↓cond_false, ↓cond_and, ↓cond_or, ↓cond_not, ↓cond_ite, ↓if_pos, ↓if_neg, ↓if_true, ↓if_false, List.take_length, Nat.le_refl, Bool.not_true, Bool.not_false, get_D' ((0, (0, (0, (0, 0)))) : Out18), Int.toNat_natCast, wrap_i64']
    simp
  · rw [if_neg (by omega)]
theorem outs_b {β : Type} (l : List Out18) (h : l.length ≤ 1000000) (f : Bool → Option β) : bindO (dialtoneref18_Outs (l, l)) f = f true := by rw [outs_j l h]; rfl
theorem sameRr_b {β : Type} (a1 a2 a3 : Int) (a4 : List Int) (a5 a6 : Bool) (hl : a4.length ≤ 1000000) (f : Bool → Option β) : bindO (dialtoneref18_Same ((a1, (a2, (a3, (a4, (a5, a6))))), (a1, (a2, (a3, (a4, (a5, a6))))))) f = f true := by rw [sameR_j _ _ _ _ _ _ _ _ _ _ _ _ hl, eqRel_refl]; rfl
/-- A step that both take. -/
def Both (o p : Option (Rel18 × (List Out18 × Int))) : Prop := ∃ b1 b2 b3 b4 b5 b6 l e, o = some ((b1, (b2, (b3, (b4, (b5, b6))))), (l, e)) ∧ p = some ((b1, (b2, (b3, (b4, (b5, b6))))), (l, e)) ∧ b4.length ≤ 1000 ∧ l.length ≤ 1000
theorem both_of {o p : Option (Rel18 × (List Out18 × Int))} {R : Rel18 × (List Out18 × Int)} (h : o = some R) (k : p = some R) (h1 : R.1.2.2.2.1.length ≤ 1000) (h2 : R.2.1.length ≤ 1000) : Both o p := ⟨_, _, _, _, _, _, _, _, h, k, h1, h2⟩
theorem nextR_len {a1 a2 a3 : Int} {a4 : List Int} {a5 a6 : Bool} (h : a4.length ≤ 100) : (nextR a1 a2 a3 a4 a5 a6).1.2.2.2.1.length ≤ 1000 ∧ (nextR a1 a2 a3 a4 a5 a6).2.length ≤ 1000 := by
  unfold nextR
  split
  · exact ⟨by show a4.length ≤ 1000; omega, by simp⟩
  · split
    · exact ⟨by simp, by simp⟩
    · rename_i x l
      simp only [List.length_cons] at h
      split
      · exact ⟨by show l.length ≤ 1000; omega, by simp [outFin]⟩
      · exact ⟨by show l.length ≤ 1000; omega, by simp [outSend]⟩
theorem err18_len (e : Int) : (err18 e).1.2.2.2.1.length ≤ 1000 ∧ (err18 e).2.1.length ≤ 1000 := by simp [err18]
theorem offer_both (a1 a2 a3 : Int) (a4 : List Int) (a5 a6 : Bool) (c : Int) : Both (provisional_Offer ((a1, (a2, (a3, (a4, (a5, a6))))), c)) (dialtoneref18_Offer ((a1, (a2, (a3, (a4, (a5, a6))))), c)) := by
  by_cases h : MayP a1 a2 a3 a4 a5 a6
  · have hl := h.len
    have hr : (OfferR (a1, (a2, (a3, (a4, (a5, a6))))) c).1.2.2.2.1.length ≤ 1000 ∧ (OfferR (a1, (a2, (a3, (a4, (a5, a6))))) c).2.1.length ≤ 1000 := by
      unfold OfferR
      simp only
      split
      · exact err18_len 2
      split
      · exact err18_len 9
      split
      · exact ⟨by simp, by simp [outFin]⟩
      split
      · exact err18_len 10
      · exact nextR_len (by simp; omega)
    exact both_of (offer_j h c) (offerRef_j h c) hr.1 hr.2
  · exact both_of (no_j h c).1 (no_j h c).2.1 (err18_len 2).1 (err18_len 2).2
theorem ack_both (a1 a2 a3 : Int) (a4 : List Int) (a5 a6 : Bool) (c : Int) : Both (provisional_Ack ((a1, (a2, (a3, (a4, (a5, a6))))), c)) (dialtoneref18_Ack ((a1, (a2, (a3, (a4, (a5, a6))))), c)) := by
  by_cases h : MayP a1 a2 a3 a4 a5 a6
  · have hl := h.len
    have hr : (AckR (a1, (a2, (a3, (a4, (a5, a6))))) c).1.2.2.2.1.length ≤ 1000 ∧ (AckR (a1, (a2, (a3, (a4, (a5, a6))))) c).2.1.length ≤ 1000 := by
      unfold AckR
      simp only
      split
      · exact err18_len 8
      · exact nextR_len (by omega)
    exact both_of (ack_j h c) (ackRef_j h c) hr.1 hr.2
  · exact both_of (no_j h c).2.2.1 (no_j h c).2.2.2.1 (err18_len 2).1 (err18_len 2).2
theorem fire_both (a1 a2 a3 : Int) (a4 : List Int) (a5 a6 : Bool) (c : Int) : Both (provisional_Fire ((a1, (a2, (a3, (a4, (a5, a6))))), c)) (dialtoneref18_Fire ((a1, (a2, (a3, (a4, (a5, a6))))), c)) := by
  by_cases h : MayP a1 a2 a3 a4 a5 a6
  · have hl := h.len
    have hr : (FireR (a1, (a2, (a3, (a4, (a5, a6))))) c).1.2.2.2.1.length ≤ 1000 ∧ (FireR (a1, (a2, (a3, (a4, (a5, a6))))) c).2.1.length ≤ 1000 := by
      unfold FireR
      simp only
      split
      · exact err18_len 2
      split
      · exact ⟨by show a4.length ≤ 1000; omega, by simp⟩
      split
      · exact ⟨by simp, by simp⟩
      · exact ⟨by show a4.length ≤ 1000; omega, by simp⟩
    exact both_of (fire_j h c) (fireRef_j h c) hr.1 hr.2
  · exact both_of (no_j h c).2.2.2.2.1 (no_j h c).2.2.2.2.2 (err18_len 2).1 (err18_len 2).2
theorem copied_j (a1 a2 a3 : Int) (a4 : List Int) (a5 a6 : Bool) : dialtonelaw18_copied (a1, (a2, (a3, (a4, (a5, a6))))) = some (a1, (a2, (a3, (a4.take 40, (a5, a6))))) := by
  have hm : minA (a4.length : Int) 40 = ((min a4.length 40 : Nat) : Int) := by unfold minA; split <;> omega
  unfold dialtonelaw18_copied
  simp only [hm, Int.toNat_natCast]
  rw [cond_ite, if_pos (by omega)]
  simp only [bindO_some, bindO_none, joinO_inl, joinO_inr, joinO_none, outO_some, outO_none, cond_ite, List.take_length, Nat.le_refl, if_true, Nat.mul_one, Int.mul_one, cond_true, cond_false]
  rw [if_pos (by rw [List.length_take]; omega)]
  congr 5
  rw [List.take_eq_take_iff]; omega
theorem may_both (a1 a2 a3 : Int) (a4 : List Int) (a5 a6 : Bool) : ∃ b, provisional_May (a1, (a2, (a3, (a4, (a5, a6))))) = some b ∧ dialtoneref18_May (a1, (a2, (a3, (a4, (a5, a6))))) = some b := by
  rcases may_j a1 a2 a3 a4 a5 a6 with ⟨_, k⟩ | ⟨_, k⟩
  · exact ⟨true, k⟩
  · exact ⟨false, k⟩
theorem steps_main (a1 a2 a3 : Int) (a4 : List Int) (a5 a6 : Bool) (a7 a8 a9 : Int) (a10 : List Int) (a11 a12 : Bool) (a13 : Int) : dialtonelaw18_ProvisionalSteps ((a1, (a2, (a3, (a4, (a5, a6))))), ((a7, (a8, (a9, (a10, (a11, a12))))), a13)) = some true := by
  unfold dialtonelaw18_ProvisionalSteps
  simp only [copied_j, bindO_some, bindO_none, joinO_inl, joinO_inr, joinO_none, outO_some, outO_none, cond_ite, List.take_length, Nat.le_refl, if_true, Nat.mul_one, Int.mul_one, cond_true, cond_false]
  have ht : (a4.take 40).take 40 = a4.take 40 := by rw [List.take_take]; rfl
  rw [ht]
  generalize hq : a4.take 40 = q
  have hl : q.length ≤ 40 := by rw [← hq, List.length_take]; omega
  obtain ⟨m, m1, m2⟩ := may_both a1 a2 a3 q a5 a6
  simp (disch := omega) only [m1, m2, bindO_some, bindO_none, joinO_inl, joinO_inr, joinO_none, outO_some, outO_none, cond_ite, List.take_length, Nat.le_refl, if_true, Nat.mul_one, Int.mul_one, cond_true, cond_false, same_j, sameR_j, eqRel_refl, bne_self_eq_false, Bool.not_true]
  refine joinO_eq (loopO_from (fun i => (i : Int)) 3 rfl (fun i hi => ?_) (r := Sum.inl ()) ?_) rfl
  · obtain ⟨b1, b2, b3, b4, b5, b6, l, e, o1, o2, o3, o4⟩ := offer_both a1 a2 a3 q a5 a6 (List.getD (a13 :: ((Go.IntKind.wrap .i64 (Int.tmod (Go.IntKind.wrap .u64 a13) 700)) :: (a1 :: ([] : List Int)))) i 0)
    obtain ⟨c1, c2, c3, c4, c5, c6, l2, e2, p1, p2, p3, p4⟩ := ack_both a1 a2 a3 q a5 a6 (List.getD (a13 :: ((Go.IntKind.wrap .i64 (Int.tmod (Go.IntKind.wrap .u64 a13) 700)) :: (a1 :: ([] : List Int)))) i 0)
    obtain ⟨d1, d2, d3, d4, d5, d6, l3, e3, q1, q2, q3, q4⟩ := fire_both a1 a2 a3 q a5 a6 (Int.tmod (List.getD (a13 :: ((Go.IntKind.wrap .i64 (Int.tmod (Go.IntKind.wrap .u64 a13) 700)) :: (a1 :: ([] : List Int)))) i 0) 4)
    simp (disch := omega) only [bindO_some, bindO_none, joinO_inl, joinO_inr, joinO_none, outO_some, outO_none, cond_ite, List.take_length, Nat.le_refl, if_true, Nat.mul_one, Int.mul_one, cond_true, cond_false, if_pos, Int.toNat_natCast, o1, o2, p1, p2, q1, q2, ne_eq, not_true_eq_false, if_false, sameR_j, eqRel_refl, outs_j, Bool.not_true, wrap_i64']
    rfl
  · simp (disch := omega) only [bindO_some, bindO_none, joinO_inl, joinO_inr, joinO_none, outO_some, outO_none, cond_ite, List.take_length, Nat.le_refl, if_true, Nat.mul_one, Int.mul_one, cond_true, cond_false, if_neg]
theorem steps_law (a : (Rel18 × (Rel18 × Int))) (hw : WfIs [(.tmp 0 true [(.dat (.int .i64)), (.dat (.int .i64)), (.dat (.int .i64)), (.dat (.list (.int .i64))), (.dat .bool), (.dat .bool)]), (.tmp 1 true [(.dat (.int .i64)), (.dat (.int .i64)), (.dat (.int .i64)), (.dat (.list (.int .i64))), (.dat .bool), (.dat .bool)]), (.tmp 2 false [(.dat (.int .i64))])] a) : dialtonelaw18_ProvisionalSteps a = some true := by
  obtain ⟨⟨a1, a2, a3, a4, a5, a6⟩, ⟨a7, a8, a9, a10, a11, a12⟩, a13⟩ := a
  exact steps_main _ _ _ _ _ _ _ _ _ _ _ _ _
end Go.Proofs.Ytonejiaiieiboaa
