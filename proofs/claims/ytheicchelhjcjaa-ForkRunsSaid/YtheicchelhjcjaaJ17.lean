/- Chapter 23, plain: the law of sequences. -/
import Derived.Test.YtheicchelhjcjaaJ16
set_option linter.unusedVariables false
set_option linter.unusedSimpArgs false
set_option maxRecDepth 100000
namespace Go.Proofs.Ytheicchelhjcjaa
open Go.RowKit

abbrev In := Int × (Int × Int)
abbrev i0 : In := (0, (0, 0))
noncomputable def rnB (a2 : List In) (x10 : Int) : (Int × (Fk × Fk)) → Option ((Int × (Fk × Fk)) ⊕ ((Fk × Fk) ⊕ Bool)) :=
(fun (v20, ((v21, (v22, (v23, (v24, v25)))), (v26, (v27, (v28, (v29, v30)))))) =>
      joinO (bif (decide (v20 < (((List.length a2) : Nat) : Int))) then
        bif (decide (v20 < (60 : Int))) then
         bif (decide (x10 = (0 : Int))) then
          some (Sum.inl ())
         else
          outO (outO (some (Sum.inl ((v21, (v22, (v23, (v24, v25)))), (v26, (v27, (v28, (v29, v30))))))))
        else
         outO (outO (some (Sum.inl ((v21, (v22, (v23, (v24, v25)))), (v26, (v27, (v28, (v29, v30))))))))
       else
        outO (outO (some (Sum.inl ((v21, (v22, (v23, (v24, v25)))), (v26, (v27, (v28, (v29, v30))))))))) fun _ =>
      bindO (fork_Valid (v26, (v27, (v28, (v29, v30))))) fun x31 =>
      bif (!x31) then
       outO (outO (some Bool.false))
      else
       bif (decide (((0 : Int) ≤ v20) ∧ (v20 < (((List.length a2) : Nat) : Int)))) then 
        bindO a2[(Int.toNat v20)]? fun x32 =>
        bindO (fork_Step ((v26, (v27, (v28, (v29, v30)))), (x32.1, (x32.2.1, x32.2.2)))) fun ((x34, (x35, (x36, (x37, x38)))), (x39, x40)) =>
        bif (decide (((0 : Int) ≤ v20) ∧ (v20 < (((List.length a2) : Nat) : Int)))) then 
         bindO a2[(Int.toNat v20)]? fun x41 =>
         bindO (dialtoneref23_Step ((v21, (v22, (v23, (v24, v25)))), (x41.1, (x41.2.1, x41.2.2)))) fun ((x43, (x44, (x45, (x46, x47)))), (x48, x49)) =>
         bindO (dialtoneref23_Same ((x34, (x35, (x36, (x37, x38)))), (x43, (x44, (x45, (x46, x47)))))) fun x50 =>
         bif (!x50) then
          outO (outO (some Bool.false))
         else
          bindO (dialtoneref23_SameActs (x39, x48)) fun x51 =>
          bif (!x51) then
           outO (outO (some Bool.false))
          else
           bif (decide (x40 ≠ x49)) then
            outO (outO (some Bool.false))
           else
            bif (decide (x40 = (0 : Int))) then
             some (Sum.inl ((Go.IntKind.wrap .i64 (v20 + (1 : Int))), ((x43, (x44, (x45, (x46, x47)))), (x34, (x35, (x36, (x37, x38)))))))
            else
             some (Sum.inl ((Go.IntKind.wrap .i64 (v20 + (1 : Int))), ((v21, (v22, (v23, (v24, v25)))), (v26, (v27, (v28, (v29, v30)))))))
        else none
       else none)
theorem runs_eq (a1 : List Tg) (a2 : List In) : dialtonelaw23_ForkRuns (a1, a2) =

  bindO (fork_New a1) fun ((x4, (x5, (x6, (x7, x8)))), (x9, x10)) =>
  bindO (dialtoneref23_New a1) fun ((x12, (x13, (x14, (x15, x16)))), (x17, x18)) =>
  bif (decide (x10 ≠ x18)) then
   some Bool.false
  else
   bindO (dialtoneref23_Same ((x4, (x5, (x6, (x7, x8)))), (x12, (x13, (x14, (x15, x16)))))) fun x19 =>
   bif (!x19) then
    some Bool.false
   else
    joinO (loopO (rnB a2 x10) ((0 : Int), ((x12, (x13, (x14, (x15, x16)))), (x4, (x5, (x6, (x7, x8))))))) fun ((v54, (v55, (v56, (v57, v58)))), (v59, (v60, (v61, (v62, v63))))) =>
    some Bool.true := rfl
theorem valid_t {F : Fk} (h : VF F) : fork_Valid (F.1, (F.2.1, (F.2.2.1, (F.2.2.2.1, F.2.2.2.2)))) = some true := by
  rcases validPR F.1 F.2.1 F.2.2.1 F.2.2.2.1 F.2.2.2.2 with ⟨_, e⟩ | ⟨k, _⟩
  · exact e
  · exact (k h).elim
theorem runs_j (a1 : List Tg) (a2 : List In) : dialtonelaw23_ForkRuns (a1, a2) = some true := by
  rw [runs_eq]
  obtain ⟨⟨g1, g2, g3, g4, g5⟩, A, e, h1, h2, h3, h4, hv⟩ := new_vp a1
  simp only [h1, h2, bindO_some, same_refl g1 g2 g3 g4 g5 (Nat.le_trans h3 (by decide)), ne_eq, not_true, decide_false, cond_false, Bool.not_true]
  refine loopO_postG (I := fun x => ∃ (v : Nat) (F : Fk), x = ((v : Int), (F, F)) ∧ (e = 0 → VF F) ∧ F.1.length ≤ 16 ∧ v ≤ a2.length ∧ v ≤ 60) (fun x => a2.length - x.1.toNat) (fun o => o = some true) (fun x hx => ?_) ⟨0, _, rfl, hv, h3, by omega, by omega⟩
  obtain ⟨v, ⟨f1, f2, f3, f4, f5⟩, rfl, hvf, hl, hn, h60⟩ := hx
  unfold rnB
  by_cases c1 : v < a2.length
  · by_cases c2 : v < 60
    · by_cases e0 : e = 0
      · have hvt : fork_Valid (f1, (f2, (f3, (f4, f5)))) = some true := valid_t (hvf e0)
        obtain ⟨⟨k, b, c⟩, hx, hb⟩ := get_at i0 c1
        obtain ⟨⟨s1, s2, s3, s4, s5⟩, B, r, q1, q2, q3, q4, q5⟩ := step_j f1 f2 f3 f4 f5 k b c
        have hs := same_refl s1 s2 s3 s4 s5 (Nat.le_trans q3 (by decide))
        have ha := sameActs_refl B (Nat.le_trans q4 (by decide))
        have hn1 : ((v : Int) + 1) = ((v + 1 : Nat) : Int) := rfl
        have hm : a2.length - (((v + 1 : Nat) : Int)).toNat < a2.length - ((v : Nat) : Int).toNat := by rw [Int.toNat_natCast, Int.toNat_natCast]; omega
        simp (disch := (first | omega | (simp only [List.length_append, List.length_cons, List.length_nil, List.nil_append, List.length_take, List.length_drop]; omega))) only [↓bindO_some, ↓bindO_none, ↓joinO_inl, ↓joinO_inr, ↓joinO_none, ↓outO_some, ↓outO_none, ↓cond_true, ↓cond_false, ↓cond_and, ↓cond_or, ↓cond_not, ↓cond_ite, ↓if_pos, ↓if_neg, ↓if_true, ↓if_false, List.take_length, Nat.le_refl, Bool.not_true, Bool.not_false, if_pos, if_neg, hvt, bindO_some, ↓hb, q1, q2, hs, ha, e0, wrap_i64', hn1, ne_eq, not_true, decide_false, cond_false]
        by_cases r0 : r = 0
        · rw [if_pos r0]
          refine PostS.next ⟨v + 1, (s1, (s2, (s3, (s4, s5)))), rfl, fun _ => ?_, q3, by omega, by omega⟩ hm
          rcases q5 with ⟨_, hck, hF, _⟩ | ⟨hr, _⟩
          · rw [hF]; exact stc_vp hck
          · exact (hr r0).elim
        · rw [if_neg r0]
          exact PostS.next ⟨v + 1, (f1, (f2, (f3, (f4, f5)))), rfl, fun _ => hvf e0, hl, by omega, by omega⟩ hm
      · simp (disch := (first | omega | (simp only [List.length_append, List.length_cons, List.length_nil, List.nil_append, List.length_take, List.length_drop]; omega))) only [↓bindO_some, ↓bindO_none, ↓joinO_inl, ↓joinO_inr, ↓joinO_none, ↓outO_some, ↓outO_none, ↓cond_true, ↓cond_false, ↓cond_and, ↓cond_or, ↓cond_not, ↓cond_ite, ↓if_pos, ↓if_neg, ↓if_true, ↓if_false, List.take_length, Nat.le_refl, Bool.not_true, Bool.not_false, if_pos, if_neg]
        exact PostS.stop rfl
    · simp (disch := (first | omega | (simp only [List.length_append, List.length_cons, List.length_nil, List.nil_append, List.length_take, List.length_drop]; omega))) only [↓bindO_some, ↓bindO_none, ↓joinO_inl, ↓joinO_inr, ↓joinO_none, ↓outO_some, ↓outO_none, ↓cond_true, ↓cond_false, ↓cond_and, ↓cond_or, ↓cond_not, ↓cond_ite, ↓if_pos, ↓if_neg, ↓if_true, ↓if_false, List.take_length, Nat.le_refl, Bool.not_true, Bool.not_false, if_pos, if_neg]
      exact PostS.stop rfl
  · simp (disch := (first | omega | (simp only [List.length_append, List.length_cons, List.length_nil, List.nil_append, List.length_take, List.length_drop]; omega))) only [↓bindO_some, ↓bindO_none, ↓joinO_inl, ↓joinO_inr, ↓joinO_none, ↓outO_some, ↓outO_none, ↓cond_true, ↓cond_false, ↓cond_and, ↓cond_or, ↓cond_not, ↓cond_ite, ↓if_pos, ↓if_neg, ↓if_true, ↓if_false, List.take_length, Nat.le_refl, Bool.not_true, Bool.not_false, if_pos, if_neg]
    exact PostS.stop rfl
theorem runs_main (a : List Tg × List In) (_ : WfIs [(.tmp 0 false [(.dat (.list (.pair .str (.int .i64))))]), (.tmp 1 false [(.dat (.list (.pair (.int .u8) (.pair (.int .i64) (.int .i64)))))])] a) : dialtonelaw23_ForkRuns a = some true := runs_j a.1 a.2
end Go.Proofs.Ytheicchelhjcjaa
