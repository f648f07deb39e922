/- Chapter 10, plain: the law TimersOnce. -/
import Derived.Test.YtejppifgljjnmaaJ2
import Derived.Test.YtejppifgljjnmaaZ2
set_option linter.unusedVariables false
set_option linter.unusedSimpArgs false
set_option maxRecDepth 100000
namespace Go.Proofs.Ytejppifgljjnmaa
open Go.RowKit

abbrev T16 := Int × (Int × (Int × (Int × (Int × (Int × (Int × (Int × (Int × (Int × (Int × (Int × (Int × (Int × (Int × Int))))))))))))))
abbrev St := List Tm × T16
noncomputable def giB {γ : Type} (D : List Int) (v58 : Int) : (Int × Int) → Option ((Int × Int) ⊕ ((Int × Int) ⊕ γ)) :=
(fun (v60, v61) =>
        bif (decide (v60 < (4 : Int))) then
         bif (decide (((0 : Int) ≤ v58) ∧ (v58 < (4 : Int)))) then 
          bif (decide (((0 : Int) ≤ v60) ∧ (v60 < (4 : Int)))) then 
           bindO D[(((Int.toNat v58) * 4) + (Int.toNat v60))]? fun x62 =>
           bif (decide (x62 > (0 : Int))) then
            some (Sum.inl ((Go.IntKind.wrap .i64 (v60 + (1 : Int))), (Go.IntKind.wrap .i64 (v61 + (1 : Int)))))
           else
            some (Sum.inl ((Go.IntKind.wrap .i64 (v60 + (1 : Int))), v61))
          else none
         else none
        else
         outO (some (Sum.inl (v60, v61))))
noncomputable def gmB {γ : Type} (D : List Int) : (Int × Int) → Option ((Int × Int) ⊕ (Int ⊕ γ)) :=
(fun (v58, v59) =>
     bif (decide (v58 < (4 : Int))) then
      joinO (loopO (giB D v58) ((0 : Int), v59)) fun (v66, v67) =>
      some (Sum.inl ((Go.IntKind.wrap .i64 (v58 + (1 : Int))), v67))
     else
      outO (some (Sum.inl v59)))
noncomputable def gjB {γ : Type} (l : List Tm) (v70 : Int) (x71 x72 : Tm) : Int → Option (Int ⊕ ((Int × (Int × Int)) ⊕ (Int ⊕ (Unit ⊕ (Bool ⊕ γ))))) :=
(fun v79 =>
          bif (decide (v79 < v70)) then
           bif (decide (((0 : Int) ≤ v79) ∧ (v79 < (((List.length l) : Nat) : Int)))) then 
            bindO l[(Int.toNat v79)]? fun x80 =>
            bif (decide (x80.2.1 = x71.2.1)) then
             bif (decide (((0 : Int) ≤ v79) ∧ (v79 < (((List.length l) : Nat) : Int)))) then 
              bindO l[(Int.toNat v79)]? fun x81 =>
              bif (decide (x81.2.2 = x72.2.2)) then
               outO (outO (outO (outO (some (Sum.inl Bool.false)))))
              else
               some (Sum.inl (Go.IntKind.wrap .i64 (v79 + (1 : Int))))
             else none
            else
             some (Sum.inl (Go.IntKind.wrap .i64 (v79 + (1 : Int))))
           else none
          else
           outO (some (Sum.inl (v79, (x72.2.2, x71.2.1)))))
noncomputable def glB {γ : Type} (D : List Int) (l : List Tm) : Int → Option (Int ⊕ (Unit ⊕ (Bool ⊕ γ))) :=
(fun v70 =>
     bif (decide (v70 < (((List.length l) : Nat) : Int))) then
      joinO (bif (decide (((0 : Int) ≤ v70) ∧ (v70 < (((List.length l) : Nat) : Int)))) then 
        bindO l[(Int.toNat v70)]? fun x71 =>
        bif (decide (((0 : Int) ≤ v70) ∧ (v70 < (((List.length l) : Nat) : Int)))) then 
         bindO l[(Int.toNat v70)]? fun x72 =>
         joinO (bif (decide (x71.2.1 < (0 : Int))) then
           outO (outO (outO (outO (some (Sum.inl Bool.false)))))
          else
           bif (decide (x71.2.1 > (3 : Int))) then
            outO (outO (outO (outO (some (Sum.inl Bool.false)))))
           else
            bif (decide (x72.2.2 < (0 : Int))) then
             outO (outO (outO (outO (some (Sum.inl Bool.false)))))
            else
             bif (decide (x72.2.2 > (3 : Int))) then
              outO (outO (outO (outO (some (Sum.inl Bool.false)))))
             else
              bif (decide (((0 : Int) ≤ x71.2.1) ∧ (x71.2.1 < (4 : Int)))) then 
               bif (decide (((0 : Int) ≤ x72.2.2) ∧ (x72.2.2 < (4 : Int)))) then 
                bindO D[(((Int.toNat x71.2.1) * 4) + (Int.toNat x72.2.2))]? fun x73 =>
                bif (decide (((0 : Int) ≤ v70) ∧ (v70 < (((List.length l) : Nat) : Int)))) then 
                 bindO l[(Int.toNat v70)]? fun x74 =>
                 bif (decide (x73 ≠ (Go.IntKind.wrap .i64 (x74.1 + (1 : Int))))) then
                  outO (outO (outO (outO (some (Sum.inl Bool.false)))))
                 else
                  bif (decide (v70 > (0 : Int))) then
                   bif (decide (((0 : Int) ≤ v70) ∧ (v70 < (((List.length l) : Nat) : Int)))) then 
                    bindO l[(Int.toNat v70)]? fun x76 =>
                    bindO (some (Go.IntKind.wrap .i64 (v70 - (1 : Int)))) fun x77 =>
                    bif (decide (((0 : Int) ≤ x77) ∧ (x77 < (((List.length l) : Nat) : Int)))) then 
                     bindO l[(Int.toNat x77)]? fun x78 =>
                     bif (decide (x76.1 < x78.1)) then
                      outO (outO (outO (outO (some (Sum.inl Bool.false)))))
                     else
                      some (Sum.inl ())
                    else none
                   else none
                  else
                   some (Sum.inl ())
                else none
               else none
              else none) fun _ =>
         loopO (gjB l v70 x71 x72) (0 : Int)
        else none
       else none) fun (v84, (v85, v86)) =>
      some (Sum.inl (Go.IntKind.wrap .i64 (v70 + (1 : Int))))
     else
      outO (some (Sum.inl ())))
noncomputable def agB {γ : Type} (D : List Int) (l : List Tm) : Option (Bool ⊕ γ) :=
 joinO (loopO (gmB D) ((0 : Int), (0 : Int))) fun v69 =>
   joinO (loopO (glB D l) (0 : Int)) fun _ =>
   some (Sum.inl (decide (v69 = (((List.length l) : Nat) : Int))))
noncomputable def mnB (a1 : List (Int × Int)) : (Int × St) → Option ((Int × St) ⊕ (St ⊕ Bool)) :=
(fun (v4, (v5, (v6, (v7, (v8, (v9, (v10, (v11, (v12, (v13, (v14, (v15, (v16, (v17, (v18, (v19, (v20, v21))))))))))))))))) =>
    bif (decide (v4 < (((List.length a1) : Nat) : Int))) then
     bif (decide (v4 < (200 : Int))) then
      bif (decide (((0 : Int) ≤ v4) ∧ (v4 < (((List.length a1) : Nat) : Int)))) then 
       bindO a1[(Int.toNat v4)]? fun x22 =>
       bindO (some (Int.tmod (Go.IntKind.wrap .u8 (Int.tdiv x22.1 (4 : Int))) (4 : Int))) fun x24 =>
       bif (decide (((0 : Int) ≤ v4) ∧ (v4 < (((List.length a1) : Nat) : Int)))) then 
        bindO a1[(Int.toNat v4)]? fun x26 =>
        bindO (some (Int.tmod x26.1 (4 : Int))) fun x27 =>
        bif (decide (((0 : Int) ≤ v4) ∧ (v4 < (((List.length a1) : Nat) : Int)))) then 
         bindO a1[(Int.toNat v4)]? fun x29 =>
         bindO (some (Go.IntKind.wrap .i64 x29.2)) fun x30 =>
         bindO (timers_Restart (v5, (x30, ((Go.IntKind.wrap .i64 x24), (Go.IntKind.wrap .i64 x27))))) fun (x32, x33) =>
         bif (decide (x33 ≠ (0 : Int))) then
          outO (outO (some Bool.false))
         else
          bif (decide (((0 : Int) ≤ (Go.IntKind.wrap .i64 x24)) ∧ ((Go.IntKind.wrap .i64 x24) < (4 : Int)))) then 
           bif (decide (((0 : Int) ≤ (Go.IntKind.wrap .i64 x27)) ∧ ((Go.IntKind.wrap .i64 x27) < (4 : Int)))) then 
            bif (decide ((((((Int.toNat (Go.IntKind.wrap .i64 x24)) * 4) + (Int.toNat (Go.IntKind.wrap .i64 x27))) * 1) + 1) ≤ 16)) then 
             bindO (some (putL (v6 :: (v7 :: (v8 :: (v9 :: (v10 :: (v11 :: (v12 :: (v13 :: (v14 :: (v15 :: (v16 :: (v17 :: (v18 :: (v19 :: (v20 :: (v21 :: ([] : List Int))))))))))))))))) ((((Int.toNat (Go.IntKind.wrap .i64 x24)) * 4) + (Int.toNat (Go.IntKind.wrap .i64 x27))) * 1) ((Go.IntKind.wrap .i64 ((1 : Int) + x30)) :: ([] : List Int)))) fun x35 =>
             some (Sum.inl ((Go.IntKind.wrap .i64 (v4 + (1 : Int))), (x32, ((List.getD x35 0 (0 : Int)), ((List.getD x35 1 (0 : Int)), ((List.getD x35 2 (0 : Int)), ((List.getD x35 3 (0 : Int)), ((List.getD x35 4 (0 : Int)), ((List.getD x35 5 (0 : Int)), ((List.getD x35 6 (0 : Int)), ((List.getD x35 7 (0 : Int)), ((List.getD x35 8 (0 : Int)), ((List.getD x35 9 (0 : Int)), ((List.getD x35 10 (0 : Int)), ((List.getD x35 11 (0 : Int)), ((List.getD x35 12 (0 : Int)), ((List.getD x35 13 (0 : Int)), ((List.getD x35 14 (0 : Int)), (List.getD x35 15 (0 : Int))))))))))))))))))))
            else none
           else none
          else none
        else none
       else none
      else none
     else
      outO (some (Sum.inl (v5, (v6, (v7, (v8, (v9, (v10, (v11, (v12, (v13, (v14, (v15, (v16, (v17, (v18, (v19, (v20, v21))))))))))))))))))
    else
     outO (some (Sum.inl (v5, (v6, (v7, (v8, (v9, (v10, (v11, (v12, (v13, (v14, (v15, (v16, (v17, (v18, (v19, (v20, v21)))))))))))))))))))
noncomputable def mcB {γ : Type} (D : List Int) (o : Int) : (Int × Int) → Option ((Int × Int) ⊕ (Int ⊕ γ)) :=
(fun (v91, v92) =>
          bif (decide (v91 < (4 : Int))) then
           bif (decide (((0 : Int) ≤ o) ∧ (o < (4 : Int)))) then 
            bif (decide (((0 : Int) ≤ v91) ∧ (v91 < (4 : Int)))) then 
             bindO D[(((Int.toNat o) * 4) + (Int.toNat v91))]? fun x93 =>
             bif (decide (x93 > (0 : Int))) then
              some (Sum.inl ((Go.IntKind.wrap .i64 (v91 + (1 : Int))), (Go.IntKind.wrap .i64 (v92 + (1 : Int)))))
             else
              some (Sum.inl ((Go.IntKind.wrap .i64 (v91 + (1 : Int))), v92))
            else none
           else none
          else
           outO (some (Sum.inl v92)))
theorem once_eq (a1 : List (Int × Int)) (a2 a3 : Int) : dialtonelaw10_TimersOnce (a1, (a2, a3)) =

  joinO (loopO (mnB a1) ((0 : Int), (([] : List (Int × (Int × Int))), ((0 : Int), ((0 : Int), ((0 : Int), ((0 : Int), ((0 : Int), ((0 : Int), ((0 : Int), ((0 : Int), ((0 : Int), ((0 : Int), ((0 : Int), ((0 : Int), ((0 : Int), ((0 : Int), ((0 : Int), (0 : Int))))))))))))))))))) fun (v37, (v38, (v39, (v40, (v41, (v42, (v43, (v44, (v45, (v46, (v47, (v48, (v49, (v50, (v51, (v52, v53)))))))))))))))) =>
  bindO (some (Int.tmod a2 (4 : Int))) fun x54 =>
  bindO (some (Int.tmod a3 (4 : Int))) fun x56 =>
  joinO (agB (v38 :: (v39 :: (v40 :: (v41 :: (v42 :: (v43 :: (v44 :: (v45 :: (v46 :: (v47 :: (v48 :: (v49 :: (v50 :: (v51 :: (v52 :: (v53 :: ([] : List Int))))))))))))))))) v37) fun v88 =>
  bif (!v88) then
   some Bool.false
  else
   bif (decide (((0 : Int) ≤ (Go.IntKind.wrap .i64 x54)) ∧ ((Go.IntKind.wrap .i64 x54) < (4 : Int)))) then 
    bif (decide (((0 : Int) ≤ (Go.IntKind.wrap .i64 x56)) ∧ ((Go.IntKind.wrap .i64 x56) < (4 : Int)))) then 
     bif (decide ((((((Int.toNat (Go.IntKind.wrap .i64 x54)) * 4) + (Int.toNat (Go.IntKind.wrap .i64 x56))) * 1) + 1) ≤ 16)) then 
      bindO (some (putL (v38 :: (v39 :: (v40 :: (v41 :: (v42 :: (v43 :: (v44 :: (v45 :: (v46 :: (v47 :: (v48 :: (v49 :: (v50 :: (v51 :: (v52 :: (v53 :: ([] : List Int))))))))))))))))) ((((Int.toNat (Go.IntKind.wrap .i64 x54)) * 4) + (Int.toNat (Go.IntKind.wrap .i64 x56))) * 1) ((0 : Int) :: ([] : List Int)))) fun x89 =>
      bif (decide (((0 : Int) ≤ (Go.IntKind.wrap .i64 x54)) ∧ ((Go.IntKind.wrap .i64 x54) < (4 : Int)))) then 
       bif (decide ((((Int.toNat (Go.IntKind.wrap .i64 x54)) * 4) + 4) ≤ 16)) then 
        bindO (some (putL (v38 :: (v39 :: (v40 :: (v41 :: (v42 :: (v43 :: (v44 :: (v45 :: (v46 :: (v47 :: (v48 :: (v49 :: (v50 :: (v51 :: (v52 :: (v53 :: ([] : List Int))))))))))))))))) ((Int.toNat (Go.IntKind.wrap .i64 x54)) * 4) ((0 : Int) :: ((0 : Int) :: ((0 : Int) :: ((0 : Int) :: ([] : List Int))))))) fun x90 =>
        joinO (loopO (mcB (v38 :: (v39 :: (v40 :: (v41 :: (v42 :: (v43 :: (v44 :: (v45 :: (v46 :: (v47 :: (v48 :: (v49 :: (v50 :: (v51 :: (v52 :: (v53 :: ([] : List Int))))))))))))))))) (Go.IntKind.wrap .i64 x54)) ((0 : Int), (0 : Int))) fun v97 =>
        bindO (timers_Cancel (v37, ((Go.IntKind.wrap .i64 x54), (Go.IntKind.wrap .i64 x56)))) fun x98 =>
        joinO (agB ((List.getD x89 0 (0 : Int)) :: ((List.getD x89 1 (0 : Int)) :: ((List.getD x89 2 (0 : Int)) :: ((List.getD x89 3 (0 : Int)) :: ((List.getD x89 4 (0 : Int)) :: ((List.getD x89 5 (0 : Int)) :: ((List.getD x89 6 (0 : Int)) :: ((List.getD x89 7 (0 : Int)) :: ((List.getD x89 8 (0 : Int)) :: ((List.getD x89 9 (0 : Int)) :: ((List.getD x89 10 (0 : Int)) :: ((List.getD x89 11 (0 : Int)) :: ((List.getD x89 12 (0 : Int)) :: ((List.getD x89 13 (0 : Int)) :: ((List.getD x89 14 (0 : Int)) :: ((List.getD x89 15 (0 : Int)) :: ([] : List Int))))))))))))))))) x98) fun v129 =>
        bif v129 then
         bindO (timers_CancelAll (v37, (Go.IntKind.wrap .i64 x54))) fun x130 =>
         joinO (agB ((List.getD x90 0 (0 : Int)) :: ((List.getD x90 1 (0 : Int)) :: ((List.getD x90 2 (0 : Int)) :: ((List.getD x90 3 (0 : Int)) :: ((List.getD x90 4 (0 : Int)) :: ((List.getD x90 5 (0 : Int)) :: ((List.getD x90 6 (0 : Int)) :: ((List.getD x90 7 (0 : Int)) :: ((List.getD x90 8 (0 : Int)) :: ((List.getD x90 9 (0 : Int)) :: ((List.getD x90 10 (0 : Int)) :: ((List.getD x90 11 (0 : Int)) :: ((List.getD x90 12 (0 : Int)) :: ((List.getD x90 13 (0 : Int)) :: ((List.getD x90 14 (0 : Int)) :: ((List.getD x90 15 (0 : Int)) :: ([] : List Int))))))))))))))))) x130) fun v161 =>
         bif v161 then
          bindO (timers_Count (v37, (Go.IntKind.wrap .i64 x54))) fun x162 =>
          bif (decide (x162 = v97)) then
           some Bool.true
          else
           some Bool.false
         else
          some Bool.false
        else
         some Bool.false
       else none
      else none
     else none
    else none
   else none := rfl
def tup (D : List Int) : T16 := (D.getD 0 0, (D.getD 1 0, (D.getD 2 0, (D.getD 3 0, (D.getD 4 0, (D.getD 5 0, (D.getD 6 0, (D.getD 7 0, (D.getD 8 0, (D.getD 9 0, (D.getD 10 0, (D.getD 11 0, (D.getD 12 0, (D.getD 13 0, (D.getD 14 0, D.getD 15 0)))))))))))))))
abbrev ex16 (D : List Int) : List Int := [D.getD 0 0, D.getD 1 0, D.getD 2 0, D.getD 3 0, D.getD 4 0, D.getD 5 0, D.getD 6 0, D.getD 7 0, D.getD 8 0, D.getD 9 0, D.getD 10 0, D.getD 11 0, D.getD 12 0, D.getD 13 0, D.getD 14 0, D.getD 15 0]
theorem ex16_eq {D : List Int} (h : D.length = 16) : ex16 D = D := by
  rcases D with _ | ⟨a0, D⟩
  · simp at h
  rcases D with _ | ⟨a1, D⟩
  · simp at h
  rcases D with _ | ⟨a2, D⟩
  · simp at h
  rcases D with _ | ⟨a3, D⟩
  · simp at h
  rcases D with _ | ⟨a4, D⟩
  · simp at h
  rcases D with _ | ⟨a5, D⟩
  · simp at h
  rcases D with _ | ⟨a6, D⟩
  · simp at h
  rcases D with _ | ⟨a7, D⟩
  · simp at h
  rcases D with _ | ⟨a8, D⟩
  · simp at h
  rcases D with _ | ⟨a9, D⟩
  · simp at h
  rcases D with _ | ⟨a10, D⟩
  · simp at h
  rcases D with _ | ⟨a11, D⟩
  · simp at h
  rcases D with _ | ⟨a12, D⟩
  · simp at h
  rcases D with _ | ⟨a13, D⟩
  · simp at h
  rcases D with _ | ⟨a14, D⟩
  · simp at h
  rcases D with _ | ⟨a15, D⟩
  · simp at h
  rcases D with _ | ⟨a16, D⟩
  · rfl
  · simp at h

abbrev dd (D : List Int) : Nat → Int := fun i => D.getD i 0
def ctD (D : List Int) (n : Nat) : Nat := (List.range n).countP fun i => decide (0 < D.getD i 0)
theorem ctD_succ (D : List Int) (n : Nat) : ctD D (n + 1) = ctD D n + if 0 < D.getD n 0 then 1 else 0 := by
  unfold ctD; rw [List.range_succ, List.countP_append, List.countP_cons, List.countP_nil]; simp only [decide_eq_true_eq, Nat.zero_add]
theorem ctD_le (D : List Int) (n : Nat) : ctD D n ≤ n := by unfold ctD; exact Nat.le_trans List.countP_le_length (by simp)
theorem at16 {D : List Int} (h : D.length = 16) {o k : Nat} (ho : o < 4) (hk : k < 4) {β : Type} (f : Int → Option β) : bindO D[o * 4 + k]? f = f (D.getD (4 * o + k) 0) := by
  rw [show o * 4 + k = 4 * o + k by omega, get_D' 0 (by omega)]; rfl
theorem gi_j {γ : Type} {D : List Int} (h : D.length = 16) {o : Nat} (ho : o < 4) : loopO (giB (γ := γ) D (o : Int)) ((0 : Int), ((ctD D (4 * o) : Nat) : Int)) = some (.inl ((4 : Int), ((ctD D (4 * o + 4) : Nat) : Int))) := by
  refine loopO_from (fun k => (((k : Nat) : Int), ((ctD D (4 * o + k) : Nat) : Int))) 4 rfl (fun k hk => ?_) ?_
  · have hb := fun {β : Type} => at16 h ho hk (β := β)
    have hn1 : ((k : Int) + 1) = ((k + 1 : Nat) : Int) := rfl
    have hle := ctD_le D (4 * o + k)
    have hs : ctD D (4 * o + (k + 1)) = ctD D (4 * o + k) + if 0 < D.getD (4 * o + k) 0 then 1 else 0 := ctD_succ D (4 * o + k)
    simp only [hs]
    generalize ctD D (4 * o + k) = c at *
    unfold giB
    by_cases g : 0 < D.getD (4 * o + k) 0
    · simp (disch := (first | omega | (simp only [List.length_append, List.length_cons, List.length_nil, List.nil_append, List.length_take, List.length_drop]; omega))) only [↓bindO_some, ↓bindO_none, ↓joinO_inl, ↓joinO_inr, ↓joinO_none, ↓outO_some, ↓outO_none, ↓cond_true, ↓cond_false, ↓cond_and, ↓cond_or, ↓cond_not, ↓cond_ite, ↓if_pos, ↓if_neg, ↓if_true, ↓if_false, List.take_length, Nat.le_refl, Bool.not_true, Bool.not_false, if_pos, Int.toNat_natCast, ↓hb, wrap_i64', hn1]
      rfl
    · simp (disch := (first | omega | (simp only [List.length_append, List.length_cons, List.length_nil, List.nil_append, List.length_take, List.length_drop]; omega))) only [↓bindO_some, ↓bindO_none, ↓joinO_inl, ↓joinO_inr, ↓joinO_none, ↓outO_some, ↓outO_none, ↓cond_true, ↓cond_false, ↓cond_and, ↓cond_or, ↓cond_not, ↓cond_ite, ↓if_pos, ↓if_neg, ↓if_true, ↓if_false, List.take_length, Nat.le_refl, Bool.not_true, Bool.not_false, if_pos, if_neg, Int.toNat_natCast, ↓hb, wrap_i64', hn1, Nat.add_zero]
  · unfold giB
    simp (disch := (first | omega | (simp only [List.length_append, List.length_cons, List.length_nil, List.nil_append, List.length_take, List.length_drop]; omega))) only [↓bindO_some, ↓bindO_none, ↓joinO_inl, ↓joinO_inr, ↓joinO_none, ↓outO_some, ↓outO_none, ↓cond_true, ↓cond_false, ↓cond_and, ↓cond_or, ↓cond_not, ↓cond_ite, ↓if_pos, ↓if_neg, ↓if_true, ↓if_false, List.take_length, Nat.le_refl, Bool.not_true, Bool.not_false, if_neg]
    rfl
theorem gm_j {γ : Type} {D : List Int} (h : D.length = 16) : loopO (gmB (γ := γ) D) ((0 : Int), (0 : Int)) = some (.inl ((ctD D 16 : Nat) : Int)) := by
  refine loopO_from (fun o => (((o : Nat) : Int), ((ctD D (4 * o) : Nat) : Int))) 4 rfl (fun o ho => ?_) ?_
  · have hn1 : ((o : Int) + 1) = ((o + 1 : Nat) : Int) := rfl
    have hg := fun {γ' : Type} => gi_j (γ := γ') h ho
    unfold gmB
    simp (disch := (first | omega | (simp only [List.length_append, List.length_cons, List.length_nil, List.nil_append, List.length_take, List.length_drop]; omega))) only [↓bindO_some, ↓bindO_none, ↓joinO_inl, ↓joinO_inr, ↓joinO_none, ↓outO_some, ↓outO_none, ↓cond_true, ↓cond_false, ↓cond_and, ↓cond_or, ↓cond_not, ↓cond_ite, ↓if_pos, ↓if_neg, ↓if_true, ↓if_false, List.take_length, Nat.le_refl, Bool.not_true, Bool.not_false, if_pos, hg, wrap_i64', hn1]
    rfl
  · unfold gmB
    simp (disch := (first | omega | (simp only [List.length_append, List.length_cons, List.length_nil, List.nil_append, List.length_take, List.length_drop]; omega))) only [↓bindO_some, ↓bindO_none, ↓joinO_inl, ↓joinO_inr, ↓joinO_none, ↓outO_some, ↓outO_none, ↓cond_true, ↓cond_false, ↓cond_and, ↓cond_or, ↓cond_not, ↓cond_ite, ↓if_pos, ↓if_neg, ↓if_true, ↓if_false, List.take_length, Nat.le_refl, Bool.not_true, Bool.not_false, if_neg]
theorem gj_j {γ : Type} {l : List Tm} {d : Nat → Int} (hS : VS l) (hK : KR l d) {i : Nat} (hi : i < l.length) : loopO (gjB (γ := γ) l (i : Int) (l.getD i t0) (l.getD i t0)) (0 : Int) = some (.inl ((i : Int), ((l.getD i t0).2.2, (l.getD i t0).2.1))) := by
  have hl := hS.len
  refine loopO_from (fun j => ((j : Nat) : Int)) i rfl (fun j hj => ?_) ?_
  · obtain ⟨y, hy, hb⟩ := get_at t0 (show j < l.length by omega)
    have hne := pw_getD hK.pw hj hi
    rw [hy] at hne
    have hn1 : ((j : Int) + 1) = ((j + 1 : Nat) : Int) := rfl
    unfold gjB
    generalize l.getD i t0 = x at *
    by_cases g : y.2.1 = x.2.1
    · have g2 : ¬ y.2.2 = x.2.2 := fun k => hne ⟨g, k⟩
      simp (disch := (first | omega | (simp only [List.length_append, List.length_cons, List.length_nil, List.nil_append, List.length_take, List.length_drop]; omega))) only [↓bindO_some, ↓bindO_none, ↓joinO_inl, ↓joinO_inr, ↓joinO_none, ↓outO_some, ↓outO_none, ↓cond_true, ↓cond_false, ↓cond_and, ↓cond_or, ↓cond_not, ↓cond_ite, ↓if_pos, ↓if_neg, ↓if_true, ↓if_false, List.take_length, Nat.le_refl, Bool.not_true, Bool.not_false, if_pos, if_neg, ↓hb, g, g2, wrap_i64', hn1]
    · simp (disch := (first | omega | (simp only [List.length_append, List.length_cons, List.length_nil, List.nil_append, List.length_take, List.length_drop]; omega))) only [↓bindO_some, ↓bindO_none, ↓joinO_inl, ↓joinO_inr, ↓joinO_none, ↓outO_some, ↓outO_none, ↓cond_true, ↓cond_false, ↓cond_and, ↓cond_or, ↓cond_not, ↓cond_ite, ↓if_pos, ↓if_neg, ↓if_true, ↓if_false, List.take_length, Nat.le_refl, Bool.not_true, Bool.not_false, if_pos, if_neg, ↓hb, g, wrap_i64', hn1]
  · unfold gjB
    simp (disch := (first | omega | (simp only [List.length_append, List.length_cons, List.length_nil, List.nil_append, List.length_take, List.length_drop]; omega))) only [↓bindO_some, ↓bindO_none, ↓joinO_inl, ↓joinO_inr, ↓joinO_none, ↓outO_some, ↓outO_none, ↓cond_true, ↓cond_false, ↓cond_and, ↓cond_or, ↓cond_not, ↓cond_ite, ↓if_pos, ↓if_neg, ↓if_true, ↓if_false, List.take_length, Nat.le_refl, Bool.not_true, Bool.not_false, if_neg]
theorem gl_j {γ : Type} {l : List Tm} {D : List Int} (h : D.length = 16) (hS : VS l) (hK : KR l (dd D)) : loopO (glB (γ := γ) D l) (0 : Int) = some (.inl ()) := by
  have hl := hS.len
  refine loopO_from (fun i => ((i : Nat) : Int)) l.length rfl (fun i hi => ?_) ?_
  · have hj := gj_j (γ := γ) hS hK hi
    obtain ⟨x, hx, hb⟩ := get_at t0 hi
    have hm : x ∈ l := by rw [← hx]; exact mem_getD hi
    obtain ⟨k1, k2, k3, k4⟩ := hK.ok x hm
    have hat := hS.at_ x hm
    rw [hx] at hj
    have hkey : Int.toNat x.2.1 * 4 + Int.toNat x.2.2 = key x := by unfold key; omega
    have hk16 : key x < 16 := by unfold key; omega
    have hbD : ∀ {β : Type} (f : Int → Option β), bindO D[key x]? f = f (x.1 + 1) := fun {β} f => by
      rw [get_D' 0 (by omega)]
      show f (D.getD (key x) 0) = _
      rw [show D.getD (key x) 0 = x.1 + 1 from k4]
    have hn1 : ((i : Int) + 1) = ((i + 1 : Nat) : Int) := rfl
    unfold glB
    by_cases g : 0 < i
    · obtain ⟨y, hy, hby⟩ := get_at t0 (show i - 1 < l.length by omega)
      have hle := pw_getD hS.pw (show i - 1 < i by omega) hi
      rw [hx, hy] at hle
      have hi1 : IntKind.wrap .i64 ((i : Int) - 1) = ((i - 1 : Nat) : Int) := by rw [wrap_i64' (by omega)]; omega
      simp (disch := (first | omega | (simp only [List.length_append, List.length_cons, List.length_nil, List.nil_append, List.length_take, List.length_drop]; omega))) only [↓bindO_some, ↓bindO_none, ↓joinO_inl, ↓joinO_inr, ↓joinO_none, ↓outO_some, ↓outO_none, ↓cond_true, ↓cond_false, ↓cond_and, ↓cond_or, ↓cond_not, ↓cond_ite, ↓if_pos, ↓if_neg, ↓if_true, ↓if_false, List.take_length, Nat.le_refl, Bool.not_true, Bool.not_false, if_pos, if_neg, ↓hb, hkey, ↓hbD, hi1, ↓hby, wrap_i64', hn1, ne_eq, not_true, if_false, hj]
    · simp (disch := (first | omega | (simp only [List.length_append, List.length_cons, List.length_nil, List.nil_append, List.length_take, List.length_drop]; omega))) only [↓bindO_some, ↓bindO_none, ↓joinO_inl, ↓joinO_inr, ↓joinO_none, ↓outO_some, ↓outO_none, ↓cond_true, ↓cond_false, ↓cond_and, ↓cond_or, ↓cond_not, ↓cond_ite, ↓if_pos, ↓if_neg, ↓if_true, ↓if_false, List.take_length, Nat.le_refl, Bool.not_true, Bool.not_false, if_pos, if_neg, ↓hb, hkey, ↓hbD, wrap_i64', hn1, ne_eq, not_true, if_false, hj]
  · unfold glB
    simp (disch := (first | omega | (simp only [List.length_append, List.length_cons, List.length_nil, List.nil_append, List.length_take, List.length_drop]; omega))) only [↓bindO_some, ↓bindO_none, ↓joinO_inl, ↓joinO_inr, ↓joinO_none, ↓outO_some, ↓outO_none, ↓cond_true, ↓cond_false, ↓cond_and, ↓cond_or, ↓cond_not, ↓cond_ite, ↓if_pos, ↓if_neg, ↓if_true, ↓if_false, List.take_length, Nat.le_refl, Bool.not_true, Bool.not_false, if_neg]
theorem ag_j {γ : Type} {l : List Tm} {D : List Int} (h : D.length = 16) (hS : VS l) (hK : KR l (dd D)) : agB (γ := γ) D l = some (.inl true) := by
  have hc : ctD D 16 = l.length := hK.cnt
  unfold agB
  simp only [↓bindO_some, ↓bindO_none, ↓joinO_inl, ↓joinO_inr, ↓joinO_none, ↓outO_some, ↓outO_none, ↓cond_true, ↓cond_false, ↓cond_and, ↓cond_or, ↓cond_not, ↓cond_ite, ↓if_pos, ↓if_neg, ↓if_true, ↓if_false, List.take_length, Nat.le_refl, Bool.not_true, Bool.not_false, gm_j h, gl_j h hS hK, hc, decide_true]
theorem ag_b {β : Type} {l : List Tm} {D : List Int} (h : D.length = 16) (hS : VS l) (hK : KR l (dd D)) (f : Bool → Option β) : joinO (agB D l) f = f true := by rw [ag_j h hS hK]; rfl
def c4 (D : List Int) (o n : Nat) : Nat := (List.range n).countP fun k => decide (0 < D.getD (4 * o + k) 0)
theorem c4_succ (D : List Int) (o n : Nat) : c4 D o (n + 1) = c4 D o n + if 0 < D.getD (4 * o + n) 0 then 1 else 0 := by
  unfold c4; rw [List.range_succ, List.countP_append, List.countP_cons, List.countP_nil]; simp only [decide_eq_true_eq, Nat.zero_add]
theorem c4_le (D : List Int) (o n : Nat) : c4 D o n ≤ n := by unfold c4; exact Nat.le_trans List.countP_le_length (by simp)
theorem mc_j {γ : Type} {D : List Int} (h : D.length = 16) {o : Nat} (ho : o < 4) : loopO (mcB (γ := γ) D (o : Int)) ((0 : Int), (0 : Int)) = some (.inl ((c4 D o 4 : Nat) : Int)) := by
  refine loopO_from (fun k => (((k : Nat) : Int), ((c4 D o k : Nat) : Int))) 4 rfl (fun k hk => ?_) ?_
  · have hb := fun {β : Type} => at16 h ho hk (β := β)
    have hn1 : ((k : Int) + 1) = ((k + 1 : Nat) : Int) := rfl
    have hle := c4_le D o k
    simp only [c4_succ]
    generalize c4 D o k = c at *
    unfold mcB
    by_cases g : 0 < D.getD (4 * o + k) 0
    · simp (disch := (first | omega | (simp only [List.length_append, List.length_cons, List.length_nil, List.nil_append, List.length_take, List.length_drop]; omega))) only [↓bindO_some, ↓bindO_none, ↓joinO_inl, ↓joinO_inr, ↓joinO_none, ↓outO_some, ↓outO_none, ↓cond_true, ↓cond_false, ↓cond_and, ↓cond_or, ↓cond_not, ↓cond_ite, ↓if_pos, ↓if_neg, ↓if_true, ↓if_false, List.take_length, Nat.le_refl, Bool.not_true, Bool.not_false, if_pos, Int.toNat_natCast, ↓hb, wrap_i64', hn1]
      rfl
    · simp (disch := (first | omega | (simp only [List.length_append, List.length_cons, List.length_nil, List.nil_append, List.length_take, List.length_drop]; omega))) only [↓bindO_some, ↓bindO_none, ↓joinO_inl, ↓joinO_inr, ↓joinO_none, ↓outO_some, ↓outO_none, ↓cond_true, ↓cond_false, ↓cond_and, ↓cond_or, ↓cond_not, ↓cond_ite, ↓if_pos, ↓if_neg, ↓if_true, ↓if_false, List.take_length, Nat.le_refl, Bool.not_true, Bool.not_false, if_pos, if_neg, Int.toNat_natCast, ↓hb, wrap_i64', hn1, Nat.add_zero]
  · unfold mcB
    simp (disch := (first | omega | (simp only [List.length_append, List.length_cons, List.length_nil, List.nil_append, List.length_take, List.length_drop]; omega))) only [↓bindO_some, ↓bindO_none, ↓joinO_inl, ↓joinO_inr, ↓joinO_none, ↓outO_some, ↓outO_none, ↓cond_true, ↓cond_false, ↓cond_and, ↓cond_or, ↓cond_not, ↓cond_ite, ↓if_pos, ↓if_neg, ↓if_true, ↓if_false, List.take_length, Nat.le_refl, Bool.not_true, Bool.not_false, if_neg]
theorem owner_cnt {l : List Tm} {D : List Int} (hK : KR l (dd D)) {o : Nat} (ho : o < 4) : l.countP (fun x => decide (x.2.1 = (o : Int))) = c4 D o 4 := by
  have h1 := hK.filter (fun i => decide (i / 4 = o)) (p := fun x => decide (x.2.1 = (o : Int))) (fun x hx => by
    obtain ⟨k1, k2, _⟩ := hK.ok x hx
    refine decide_eq_decide.2 ?_
    unfold key
    omega)
  have h2 := h1.cnt
  rw [List.countP_eq_length_filter, ← h2]
  unfold c4
  have h4 : o = 0 ∨ o = 1 ∨ o = 2 ∨ o = 3 := by omega
  rcases h4 with rfl | rfl | rfl | rfl <;> simp [List.range, List.range.loop, List.countP_cons]
theorem putL_one {D : List Int} (h : D.length = 16) {p : Nat} (hp : p < 16) (w : Int) : putL D p [w] = D.set p w := by
  unfold putL
  rw [List.set_eq_take_append_cons_drop, if_pos (by omega), List.append_assoc]; rfl
theorem getD_setI {l : List Int} {i j : Nat} {y : Int} (h : j < l.length) : (List.set l i y).getD j 0 = if i = j then y else l.getD j 0 := by
  rw [List.getD_eq_getElem?_getD, List.getElem?_set]
  by_cases e : i = j
  · subst e; rw [if_pos rfl, if_pos rfl, if_pos h]; rfl
  · rw [if_neg e, if_neg e, List.getD_eq_getElem?_getD]
theorem put4 {D : List Int} (h : D.length = 16) {o : Nat} (ho : o < 4) : (putL D (o * 4) [0, 0, 0, 0]).length = 16 ∧ ∀ i, i < 16 → (putL D (o * 4) [0, 0, 0, 0]).getD i 0 = if i / 4 = o then 0 else D.getD i 0 := by
  refine ⟨by rw [putL_length _ _ _ (by show o * 4 + 4 ≤ D.length; omega)]; exact h, fun i hi => ?_⟩
  rw [← ex16_eq h]
  have h4 : o = 0 ∨ o = 1 ∨ o = 2 ∨ o = 3 := by omega
  have h16 : i = 0 ∨ i = 1 ∨ i = 2 ∨ i = 3 ∨ i = 4 ∨ i = 5 ∨ i = 6 ∨ i = 7 ∨ i = 8 ∨ i = 9 ∨ i = 10 ∨ i = 11 ∨ i = 12 ∨ i = 13 ∨ i = 14 ∨ i = 15 := by omega
  rcases h4 with rfl | rfl | rfl | rfl <;> rcases h16 with rfl | rfl | rfl | rfl | rfl | rfl | rfl | rfl | rfl | rfl | rfl | rfl | rfl | rfl | rfl | rfl <;> rfl
theorem mn_j {a1 : List (Int × Int)} (ha : ∀ x ∈ a1, (0 ≤ x.1 ∧ x.1 ≤ 255) ∧ (0 ≤ x.2 ∧ x.2 ≤ 255)) (P : Option Bool → Prop) (k : St → Option Bool) (hP : ∀ l D, D.length = 16 → VS l → KR l (dd D) → P (k (l, tup D))) :
    P (joinO (loopO (mnB a1) ((0 : Int), (([] : List Tm), tup (List.replicate 16 0)))) k) := by
  refine loopO_postG (I := fun x => ∃ (v : Nat) (l : List Tm) (D : List Int), x = ((v : Int), (l, tup D)) ∧ D.length = 16 ∧ VS l ∧ KR l (dd D) ∧ v ≤ a1.length ∧ v ≤ 200) (fun x => 201 - x.1.toNat) P (fun x hx => ?_) ⟨0, [], List.replicate 16 0, rfl, by simp, ⟨by simp, List.Pairwise.nil, fun x hx => by cases hx⟩, KR.nil.congr (fun i hi => ?_), by omega, by omega⟩
  · obtain ⟨v, l, D, rfl, hD, hS, hK, hv, h200⟩ := hx
    have hex : (D.getD 0 0 :: D.getD 1 0 :: D.getD 2 0 :: D.getD 3 0 :: D.getD 4 0 :: D.getD 5 0 :: D.getD 6 0 :: D.getD 7 0 :: D.getD 8 0 :: D.getD 9 0 :: D.getD 10 0 :: D.getD 11 0 :: D.getD 12 0 :: D.getD 13 0 :: D.getD 14 0 :: D.getD 15 0 :: ([] : List Int)) = D := ex16_eq hD
    by_cases c1 : v < a1.length
    · by_cases c2 : v < 200
      · obtain ⟨x, hx, hb⟩ := get_at ((0 : Int), (0 : Int)) c1
        have hm : x ∈ a1 := by rw [← hx, List.getD_eq_getElem?_getD, List.getElem?_eq_getElem c1]; exact List.getElem_mem c1
        obtain ⟨hx1, hx2⟩ := ha x hm
        have e1 : Int.tmod (IntKind.wrap .u8 (Int.tdiv x.1 4)) 4 = (x.1 / 4) % 4 := by
          rw [Int.tdiv_eq_ediv_of_nonneg hx1.1, wr_u8, Int.tmod_eq_emod_of_nonneg (by omega)]; omega
        have e2 : Int.tmod x.1 4 = x.1 % 4 := Int.tmod_eq_emod_of_nonneg hx1.1
        obtain ⟨o, ho⟩ : ∃ o : Nat, (x.1 / 4) % 4 = (o : Int) := ⟨((x.1 / 4) % 4).toNat, by omega⟩
        obtain ⟨q, hq⟩ : ∃ q : Nat, x.1 % 4 = (q : Int) := ⟨(x.1 % 4).toNat, by omega⟩
        have ho4 : o < 4 := by omega
        have hq4 : q < 4 := by omega
        rw [ho] at e1
        rw [hq] at e2
        have w1 : IntKind.wrap .i64 (o : Int) = o := wrap_i64' (by omega)
        have w2 : IntKind.wrap .i64 (q : Int) = q := wrap_i64' (by omega)
        have w3 : IntKind.wrap .i64 x.2 = x.2 := wrap_i64' (by omega)
        have w4 : IntKind.wrap .i64 (1 + x.2) = 1 + x.2 := wrap_i64' (by omega)
        have hS' := hS.filter (notK o q)
        have hl16 := hK.len
        have hKf := hK.filter (fun i => !decide (i = 4 * o + q)) (p := notK o q) (fun y hy => by
          obtain ⟨k1, k2, _⟩ := hK.ok y hy
          have : (decide (y.2.1 = (o : Int)) && decide (y.2.2 = (q : Int))) = decide (key y = 4 * o + q) := by
            rw [and_dec]
            refine decide_eq_decide.2 ?_
            unfold key
            omega
          unfold notK
          rw [this])
        obtain ⟨p, hp, eR⟩ := restart_j (o := (o : Int)) (k := (q : Int)) hS.vt hS'.vt (a := x.2) (by omega) (by omega)
        have hlf := List.length_filter_le (notK (o : Int) q) l
        have hS2 := hS'.add (o := (o : Int)) (k := (q : Int)) hp (by omega) (by omega)
        have hno : ∀ y ∈ l.filter (notK (o : Int) q), ¬ (y.2.1 = (o : Int) ∧ y.2.2 = (q : Int)) := fun y hy g => by
          have := (List.mem_filter.1 hy).2
          simp [notK, g.1, g.2] at this
        have hK2 := hKf.add (o := (o : Int)) (k := (q : Int)) p (by omega) (by omega) hx2.1 hno
        have hp16 : (o * 4 + q) * 1 + 1 ≤ 16 := by omega
        have hput : putL D ((o * 4 + q) * 1) [1 + x.2] = D.set (4 * o + q) (1 + x.2) := by
          rw [show (o * 4 + q) * 1 = 4 * o + q by omega]; exact putL_one hD (by omega) _
        have hn1 : ((v : Int) + 1) = ((v + 1 : Nat) : Int) := rfl
        have hm : 201 - (((v + 1 : Nat) : Int)).toNat < 201 - ((v : Nat) : Int).toNat := by rw [Int.toNat_natCast, Int.toNat_natCast]; omega
        have hK3 : KR ((l.filter (notK (o : Int) q)).take p ++ (x.2, ((o : Int), (q : Int))) :: (l.filter (notK (o : Int) q)).drop p) (dd (D.set (4 * o + q) (1 + x.2))) := hK2.congr fun i hi => by
          show (D.set (4 * o + q) (1 + x.2)).getD i 0 = _
          rw [getD_setI (by omega)]
          have hkk : key (x.2, ((o : Int), (q : Int))) = 4 * o + q := by unfold key; show (4 * (o : Int) + (q : Int)).toNat = _; omega
          rw [hkk]
          by_cases e : 4 * o + q = i
          · rw [if_pos e, if_pos e.symm]; omega
          · rw [if_neg e, if_neg (fun k => e k.symm)]
            have : (!decide (i = 4 * o + q)) = true := by simp; exact fun k => e k.symm
            rw [if_pos this]
        unfold mnB tup
        simp (disch := (first | omega | (simp only [List.length_append, List.length_cons, List.length_nil, List.nil_append, List.length_take, List.length_drop]; omega))) only [↓bindO_some, ↓bindO_none, ↓joinO_inl, ↓joinO_inr, ↓joinO_none, ↓outO_some, ↓outO_none, ↓cond_true, ↓cond_false, ↓cond_and, ↓cond_or, ↓cond_not, ↓cond_ite, ↓if_pos, ↓if_neg, ↓if_true, ↓if_false, List.take_length, Nat.le_refl, Bool.not_true, Bool.not_false, if_pos, if_neg, ↓hb, e1, e2, w1, w2, w3, w4, eR, ne_eq, not_true, if_false, Int.toNat_natCast, hp16, hex, hput, wrap_i64', hn1]
        exact PostS.next ⟨v + 1, _, D.set (4 * o + q) (1 + x.2), rfl, by rw [List.length_set]; exact hD, hS2, hK3, by omega, by omega⟩ hm
      · unfold mnB tup
        simp (disch := (first | omega | (simp only [List.length_append, List.length_cons, List.length_nil, List.nil_append, List.length_take, List.length_drop]; omega))) only [↓bindO_some, ↓bindO_none, ↓joinO_inl, ↓joinO_inr, ↓joinO_none, ↓outO_some, ↓outO_none, ↓cond_true, ↓cond_false, ↓cond_and, ↓cond_or, ↓cond_not, ↓cond_ite, ↓if_pos, ↓if_neg, ↓if_true, ↓if_false, List.take_length, Nat.le_refl, Bool.not_true, Bool.not_false, if_pos, if_neg]
        exact PostS.stop (hP l D hD hS hK)
    · unfold mnB tup
      simp (disch := (first | omega | (simp only [List.length_append, List.length_cons, List.length_nil, List.nil_append, List.length_take, List.length_drop]; omega))) only [↓bindO_some, ↓bindO_none, ↓joinO_inl, ↓joinO_inr, ↓joinO_none, ↓outO_some, ↓outO_none, ↓cond_true, ↓cond_false, ↓cond_and, ↓cond_or, ↓cond_not, ↓cond_ite, ↓if_pos, ↓if_neg, ↓if_true, ↓if_false, List.take_length, Nat.le_refl, Bool.not_true, Bool.not_false, if_neg]
      exact PostS.stop (hP l D hD hS hK)
  · show (List.replicate 16 (0 : Int)).getD i 0 = 0
    rw [List.getD_eq_getElem?_getD, List.getElem?_replicate]
    split <;> rfl
theorem once_j (a1 : List (Int × Int)) (a2 a3 : Int) (ha : ∀ x ∈ a1, (0 ≤ x.1 ∧ x.1 ≤ 255) ∧ (0 ≤ x.2 ∧ x.2 ≤ 255)) (h2 : 0 ≤ a2 ∧ a2 ≤ 255) (h3 : 0 ≤ a3 ∧ a3 ≤ 255) : dialtonelaw10_TimersOnce (a1, (a2, a3)) = some true := by
  rw [once_eq]
  refine mn_j ha (fun o => o = some true) _ (fun l D hD hS hK => ?_)
  have hex : (D.getD 0 0 :: D.getD 1 0 :: D.getD 2 0 :: D.getD 3 0 :: D.getD 4 0 :: D.getD 5 0 :: D.getD 6 0 :: D.getD 7 0 :: D.getD 8 0 :: D.getD 9 0 :: D.getD 10 0 :: D.getD 11 0 :: D.getD 12 0 :: D.getD 13 0 :: D.getD 14 0 :: D.getD 15 0 :: ([] : List Int)) = D := ex16_eq hD
  obtain ⟨o, ho⟩ : ∃ o : Nat, a2 % 4 = (o : Int) := ⟨(a2 % 4).toNat, by omega⟩
  obtain ⟨q, hq⟩ : ∃ q : Nat, a3 % 4 = (q : Int) := ⟨(a3 % 4).toNat, by omega⟩
  have ho4 : o < 4 := by omega
  have hq4 : q < 4 := by omega
  have e1 : Int.tmod a2 4 = (o : Int) := by rw [Int.tmod_eq_emod_of_nonneg h2.1, ho]
  have e2 : Int.tmod a3 4 = (q : Int) := by rw [Int.tmod_eq_emod_of_nonneg h3.1, hq]
  have w1 : IntKind.wrap .i64 (o : Int) = o := wrap_i64' (by omega)
  have w2 : IntKind.wrap .i64 (q : Int) = q := wrap_i64' (by omega)
  have hp16 : (o * 4 + q) * 1 + 1 ≤ 16 := by omega
  have hp4 : o * 4 + 4 ≤ 16 := by omega
  obtain ⟨D1, hD1⟩ : ∃ D1, putL D ((o * 4 + q) * 1) [0] = D1 := ⟨_, rfl⟩
  obtain ⟨D2, hD2⟩ : ∃ D2, putL D (o * 4) [0, 0, 0, 0] = D2 := ⟨_, rfl⟩
  have hD1e : D1 = D.set (4 * o + q) 0 := by
    rw [← hD1, show (o * 4 + q) * 1 = 4 * o + q by omega]; exact putL_one hD (by omega) _
  have hD1l : D1.length = 16 := by rw [hD1e, List.length_set]; exact hD
  obtain ⟨hD2l, hD2g⟩ := put4 hD ho4
  rw [hD2] at hD2l hD2g
  have hex1 : (D1.getD 0 0 :: D1.getD 1 0 :: D1.getD 2 0 :: D1.getD 3 0 :: D1.getD 4 0 :: D1.getD 5 0 :: D1.getD 6 0 :: D1.getD 7 0 :: D1.getD 8 0 :: D1.getD 9 0 :: D1.getD 10 0 :: D1.getD 11 0 :: D1.getD 12 0 :: D1.getD 13 0 :: D1.getD 14 0 :: D1.getD 15 0 :: ([] : List Int)) = D1 := ex16_eq hD1l
  have hex2 : (D2.getD 0 0 :: D2.getD 1 0 :: D2.getD 2 0 :: D2.getD 3 0 :: D2.getD 4 0 :: D2.getD 5 0 :: D2.getD 6 0 :: D2.getD 7 0 :: D2.getD 8 0 :: D2.getD 9 0 :: D2.getD 10 0 :: D2.getD 11 0 :: D2.getD 12 0 :: D2.getD 13 0 :: D2.getD 14 0 :: D2.getD 15 0 :: ([] : List Int)) = D2 := ex16_eq hD2l
  have hK1 : KR (l.filter (notK (o : Int) q)) (dd D1) := (hK.filter (fun i => !decide (i = 4 * o + q)) (p := notK o q) (fun y hy => by
    obtain ⟨k1, k2, _⟩ := hK.ok y hy
    have : (decide (y.2.1 = (o : Int)) && decide (y.2.2 = (q : Int))) = decide (key y = 4 * o + q) := by
      rw [and_dec]
      refine decide_eq_decide.2 ?_
      unfold key
      omega
    unfold notK
    rw [this])).congr fun i hi => by
    show D1.getD i 0 = _
    rw [hD1e, getD_setI (by omega)]
    by_cases e : 4 * o + q = i
    · rw [if_pos e, if_neg (by simp; exact e.symm)]
    · rw [if_neg e]
      have : (!decide (i = 4 * o + q)) = true := by simp; exact fun k => e k.symm
      rw [if_pos this]
  have hK2 : KR (l.filter (notO (o : Int))) (dd D2) := (hK.filter (fun i => !decide (i / 4 = o)) (p := notO o) (fun y hy => by
    obtain ⟨k1, k2, _⟩ := hK.ok y hy
    have : decide (y.2.1 = (o : Int)) = decide (key y / 4 = o) := by
      refine decide_eq_decide.2 ?_
      unfold key
      omega
    unfold notO
    rw [this])).congr fun i hi => by
    show D2.getD i 0 = _
    rw [hD2g i hi]
    by_cases e : i / 4 = o
    · rw [if_pos e, if_neg (by simp [e])]
    · rw [if_neg e, if_pos (by simp [e])]
  have hcn := owner_cnt hK ho4
  unfold tup
  simp (disch := (first | omega | (simp only [List.length_append, List.length_cons, List.length_nil, List.nil_append, List.length_take, List.length_drop]; omega))) only [↓bindO_some, ↓bindO_none, ↓joinO_inl, ↓joinO_inr, ↓joinO_none, ↓outO_some, ↓outO_none, ↓cond_true, ↓cond_false, ↓cond_and, ↓cond_or, ↓cond_not, ↓cond_ite, ↓if_pos, ↓if_neg, ↓if_true, ↓if_false, List.take_length, Nat.le_refl, Bool.not_true, Bool.not_false, if_pos, hex, e1, e2, w1, w2, ag_b hD hS hK, Int.toNat_natCast, hp16, hp4, hD1, hD2, hex1, hex2, mc_j hD ho4, cancel_j _ _ hS.vt, cancelAll_j _ hS.vt, count_j _ hS.vt, ag_b hD1l (hS.filter _) hK1, ag_b hD2l (hS.filter _) hK2, hcn]
theorem once_main (a : List (Int × Int) × (Int × Int)) (hw : WfIs [(.tmp 0 false [(.dat (.list (.pair (.int .u8) (.int .u8))))]), (.tmp 1 false [(.dat (.int .u8))]), (.tmp 2 false [(.dat (.int .u8))])] a) : dialtonelaw10_TimersOnce a = some true := by
  obtain ⟨a1, a2, a3⟩ := a
  have h1 : WfU (.list (.pair (.int .u8) (.int .u8))) a1 := hw.1.1
  exact once_j a1 a2 a3 (fun x hx => ⟨wfU8 (h1.2 x hx).1, wfU8 (h1.2 x hx).2⟩) (wfU8 hw.2.1.1) (wfU8 hw.2.2.1.1)
end Go.Proofs.Ytejppifgljjnmaa
