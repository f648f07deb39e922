/- Chapter 18, plain: numbers. -/
import Derived.Test.YtonejiaiieiboaaJ5
set_option linter.unusedVariables false
set_option linter.unusedSimpArgs false
namespace Go.Proofs.Ytonejiaiieiboaa
open Go.RowKit

abbrev S18 := Int × (Int × (Int × (Int × (Int × (Int × (List Int × (Bool × Bool)))))))
noncomputable def nB (a1 : List Int) (v2 : Int) (v67 : List Out18) : (Int × (Int × Int)) → Option ((Int × (Int × Int)) ⊕ ((Int × (Int × Int)) ⊕ ((Int × (List Out18 × (Int × (Int × Rel18)))) ⊕ (S18 ⊕ ((Int × Rel18) ⊕ Bool))))) :=
(fun (v75, (v76, v77)) =>
             bif (decide (v75 < (((List.length v67) : Nat) : Int))) then
              bif (decide (((0 : Int) ≤ v75) ∧ (v75 < (((List.length v67) : Nat) : Int)))) then 
               bindO v67[(Int.toNat v75)]? fun x78 =>
               bif (decide (x78.1 ≠ (1 : Int))) then
                some (Sum.inl ((Go.IntKind.wrap .i64 (v75 + (1 : Int))), (v76, v77)))
               else
                bif (decide (((0 : Int) ≤ v75) ∧ (v75 < (((List.length v67) : Nat) : Int)))) then 
                 bindO v67[(Int.toNat v75)]? fun x80 =>
                 bif (decide (x80.2.2.1 = (Go.IntKind.wrap .i64 (v77 + (1 : Int))))) then
                  bif (decide (((0 : Int) ≤ v2) ∧ (v2 < (((List.length a1) : Nat) : Int)))) then 
                   bindO a1[(Int.toNat v2)]? fun x82 =>
                   bif (decide (x82 < (192 : Int))) then
                    bif (decide (((0 : Int) ≤ v75) ∧ (v75 < (((List.length v67) : Nat) : Int)))) then 
                     bindO v67[(Int.toNat v75)]? fun x83 =>
                     bif (decide (((0 : Int) ≤ v75) ∧ (v75 < (((List.length v67) : Nat) : Int)))) then 
                      bindO v67[(Int.toNat v75)]? fun x84 =>
                      some (Sum.inl ((Go.IntKind.wrap .i64 (v75 + (1 : Int))), (x84.2.1, x83.2.2.1)))
                     else none
                    else none
                   else
                    bif (decide (((0 : Int) ≤ v75) ∧ (v75 < (((List.length v67) : Nat) : Int)))) then 
                     bindO v67[(Int.toNat v75)]? fun x86 =>
                     bif (decide (x86.2.2.1 ≠ v77)) then
                      outO (outO (outO (outO (outO (some Bool.false)))))
                     else
                      bif (decide (((0 : Int) ≤ v75) ∧ (v75 < (((List.length v67) : Nat) : Int)))) then 
                       bindO v67[(Int.toNat v75)]? fun x87 =>
                       bif (decide (x87.2.1 ≠ v76)) then
                        outO (outO (outO (outO (outO (some Bool.false)))))
                       else
                        bif (decide (((0 : Int) ≤ v2) ∧ (v2 < (((List.length a1) : Nat) : Int)))) then 
                         bindO a1[(Int.toNat v2)]? fun x88 =>
                         bif (decide (x88 < (192 : Int))) then
                          outO (outO (outO (outO (outO (some Bool.false)))))
                         else
                          some (Sum.inl ((Go.IntKind.wrap .i64 (v75 + (1 : Int))), (v76, v77)))
                        else none
                      else none
                    else none
                  else none
                 else
                  bif (decide (((0 : Int) ≤ v75) ∧ (v75 < (((List.length v67) : Nat) : Int)))) then 
                   bindO v67[(Int.toNat v75)]? fun x90 =>
                   bif (decide (x90.2.2.1 ≠ v77)) then
                    outO (outO (outO (outO (outO (some Bool.false)))))
                   else
                    bif (decide (((0 : Int) ≤ v75) ∧ (v75 < (((List.length v67) : Nat) : Int)))) then 
                     bindO v67[(Int.toNat v75)]? fun x91 =>
                     bif (decide (x91.2.1 ≠ v76)) then
                      outO (outO (outO (outO (outO (some Bool.false)))))
                     else
                      bif (decide (((0 : Int) ≤ v2) ∧ (v2 < (((List.length a1) : Nat) : Int)))) then 
                       bindO a1[(Int.toNat v2)]? fun x92 =>
                       bif (decide (x92 < (192 : Int))) then
                        outO (outO (outO (outO (outO (some Bool.false)))))
                       else
                        some (Sum.inl ((Go.IntKind.wrap .i64 (v75 + (1 : Int))), (v76, v77)))
                      else none
                    else none
                  else none
                else none
              else none
             else
              outO (some (Sum.inl (v75, (v76, v77)))))
noncomputable def NB (a1 : List Int) : S18 → Option (S18 ⊕ ((Int × Rel18) ⊕ Bool)) :=
(fun (v2, (v3, (v4, (v5, (v6, (v7, (v8, (v9, v10)))))))) =>
    bif (decide (v2 < (((List.length a1) : Nat) : Int))) then
     bif (decide (v2 < (100 : Int))) then
      joinO (joinO (bif (decide (((0 : Int) ≤ v2) ∧ (v2 < (((List.length a1) : Nat) : Int)))) then 
         bindO a1[(Int.toNat v2)]? fun x11 =>
         bif (decide (x11 < (120 : Int))) then
          bif (decide (((0 : Int) ≤ v2) ∧ (v2 < (((List.length a1) : Nat) : Int)))) then 
           bindO a1[(Int.toNat v2)]? fun x12 =>
           bindO (provisional_Offer ((v5, (v6, (v7, (v8, (v9, v10))))), (Go.IntKind.wrap .i64 ((101 : Int) + (Go.IntKind.wrap .i64 (Int.tmod x12 (99 : Int))))))) fun ((x17, (x18, (x19, (x20, (x21, x22))))), (x23, x24)) =>
           some (Sum.inl (x24, (x23, (x17, (x18, (x19, (x20, (x21, x22))))))))
          else none
         else
          bif (decide (((0 : Int) ≤ v2) ∧ (v2 < (((List.length a1) : Nat) : Int)))) then 
           bindO a1[(Int.toNat v2)]? fun x25 =>
           bif (decide (x25 < (128 : Int))) then
            bif (decide (((0 : Int) ≤ v2) ∧ (v2 < (((List.length a1) : Nat) : Int)))) then 
             bindO a1[(Int.toNat v2)]? fun x26 =>
             bindO (some (Int.tmod x26 (2 : Int))) fun x27 =>
             bif (decide (((0 : Int) ≤ x27) ∧ (x27 < (2 : Int)))) then 
              bindO (provisional_Offer ((v5, (v6, (v7, (v8, (v9, v10))))), (List.getD ((202 : Int) :: ((404 : Int) :: ([] : List Int))) (Int.toNat x27) (0 : Int)))) fun ((x29, (x30, (x31, (x32, (x33, x34))))), (x35, x36)) =>
              some (Sum.inl (x36, (x35, (x29, (x30, (x31, (x32, (x33, x34))))))))
             else none
            else none
           else
            bif (decide (((0 : Int) ≤ v2) ∧ (v2 < (((List.length a1) : Nat) : Int)))) then 
             bindO a1[(Int.toNat v2)]? fun x37 =>
             bif (decide (x37 < (192 : Int))) then
              bindO (provisional_Ack ((v5, (v6, (v7, (v8, (v9, v10))))), v5)) fun ((x39, (x40, (x41, (x42, (x43, x44))))), (x45, x46)) =>
              some (Sum.inl (x46, (x45, (x39, (x40, (x41, (x42, (x43, x44))))))))
             else
              bif (decide (((0 : Int) ≤ v2) ∧ (v2 < (((List.length a1) : Nat) : Int)))) then 
               bindO a1[(Int.toNat v2)]? fun x47 =>
               bif (decide (x47 < (250 : Int))) then
                bindO (provisional_Fire ((v5, (v6, (v7, (v8, (v9, v10))))), (1 : Int))) fun ((x49, (x50, (x51, (x52, (x53, x54))))), (x55, x56)) =>
                some (Sum.inl (x56, (x55, (x49, (x50, (x51, (x52, (x53, x54))))))))
               else
                bindO (provisional_Fire ((v5, (v6, (v7, (v8, (v9, v10))))), (2 : Int))) fun ((x58, (x59, (x60, (x61, (x62, x63))))), (x64, x65)) =>
                some (Sum.inl (x65, (x64, (x58, (x59, (x60, (x61, (x62, x63))))))))
              else none
            else none
          else none
        else none) fun (v66, (v67, (v68, (v69, (v70, (v71, (v72, v73))))))) =>
       bif (decide (v66 ≠ (0 : Int))) then
        bif (decide ((((List.length v67) : Nat) : Int) ≠ (0 : Int))) then
         outO (outO (outO (some Bool.false)))
        else
         bif (decide (v66 ≠ (9 : Int))) then
          bif (decide (v66 ≠ (8 : Int))) then
           bif (decide (v66 ≠ (10 : Int))) then
            outO (outO (outO (some Bool.false)))
           else
            some (Sum.inl (v66, (v67, (v3, (v4, (v5, (v6, (v7, (v8, (v9, v10))))))))))
          else
           some (Sum.inl (v66, (v67, (v3, (v4, (v5, (v6, (v7, (v8, (v9, v10))))))))))
         else
          some (Sum.inl (v66, (v67, (v3, (v4, (v5, (v6, (v7, (v8, (v9, v10))))))))))
       else
        bindO (provisional_May (v68, (v69, (v70, (v71, (v72, v73)))))) fun x74 =>
        bif (!x74) then
         outO (outO (outO (some Bool.false)))
        else
         bif v10 then
          bif (decide ((((List.length v67) : Nat) : Int) ≠ (0 : Int))) then
           outO (outO (outO (some Bool.false)))
          else
           joinO (loopO (nB a1 v2 v67) ((0 : Int), (v3, v4))) fun (v94, (v95, v96)) =>
           some (Sum.inl (v66, (v67, (v95, (v96, (v68, (v69, (v70, (v71, (v72, v73))))))))))
         else
          joinO (loopO (nB a1 v2 v67) ((0 : Int), (v3, v4))) fun (v116, (v117, v118)) =>
          some (Sum.inl (v66, (v67, (v117, (v118, (v68, (v69, (v70, (v71, (v72, v73))))))))))) fun (v119, (v120, (v121, (v122, (v123, (v124, (v125, (v126, (v127, v128))))))))) =>
      some (Sum.inl ((Go.IntKind.wrap .i64 (v2 + (1 : Int))), (v121, (v122, (v123, (v124, (v125, (v126, (v127, v128)))))))))
     else
      outO (some (Sum.inl (v4, (v5, (v6, (v7, (v8, (v9, v10))))))))
    else
     outO (some (Sum.inl (v4, (v5, (v6, (v7, (v8, (v9, v10)))))))))
theorem numbers_eq (a1 : List Int) : dialtonelaw18_ProvisionalNumbers a1 =

  joinO (loopO (NB a1) ((0 : Int), ((0 : Int), ((0 : Int), ((0 : Int), ((0 : Int), ((0 : Int), (([] : List Int), (Bool.false, Bool.false))))))))) fun (v130, (v131, (v132, (v133, (v134, (v135, v136)))))) =>
  bif (decide (v131 = v130)) then
   some Bool.true
  else
   some Bool.false := rfl
section
variable {a : List Int} {i : Int} {l : List Out18} {c s : Int} {k : Nat}
theorem nB_end (h : l.length ≤ k) : loopO (nB a i l) ((k : Int), (c, s)) = some (.inl ((k : Int), (c, s))) := loopO_stop (by unfold nB; simp (disch := omega) only [↓bindO_some, ↓bindO_none, ↓joinO_inl, ↓joinO_inr, ↓joinO_none, ↓outO_some, ↓outO_none, ↓cond_true, ↓cond_false, ↓cond_and, ↓cond_or, ↓cond_not, ↓cond_ite, ↓if_pos, ↓if_neg, ↓if_true, ↓if_false, List.take_length, Nat.le_refl, Bool.not_true, Bool.not_false])
theorem nB_skip {x : Out18} (h : l[k]? = some x) (hl : k < 1000000) (h1 : x.1 ≠ 1) : loopO (nB a i l) ((k : Int), (c, s)) = loopO (nB a i l) (((k + 1 : Nat) : Int), (c, s)) := loopO_next (by
  have hk := (List.getElem?_eq_some_iff.1 h).1
  unfold nB
  simp (disch := omega) only [↓bindO_some, ↓bindO_none, ↓joinO_inl, ↓joinO_inr, ↓joinO_none, ↓outO_some, ↓outO_none, ↓cond_true, ↓cond_false, ↓cond_and, ↓cond_or, ↓cond_not, ↓cond_ite, ↓if_pos, ↓if_neg, ↓if_true, ↓if_false, List.take_length, Nat.le_refl, Bool.not_true, Bool.not_false, Int.toNat_natCast, h, wrap_i64', if_pos h1]
  rfl)
theorem nB_new {x : Out18} (h : l[k]? = some x) (hl : k < 1000000) (h1 : x.1 = 1) (hs : 0 ≤ s ∧ s ≤ 2147483647) (h2 : x.2.2.1 = s + 1) (hi : 0 ≤ i ∧ i.toNat < a.length) (ha : a.getD i.toNat 0 < 192) : loopO (nB a i l) ((k : Int), (c, s)) = loopO (nB a i l) (((k + 1 : Nat) : Int), (x.2.1, s + 1)) := loopO_next (by
  have hk := (List.getElem?_eq_some_iff.1 h).1
  unfold nB
  simp (disch := omega) only [↓bindO_some, ↓bindO_none, ↓joinO_inl, ↓joinO_inr, ↓joinO_none, ↓outO_some, ↓outO_none, ↓cond_true, ↓cond_false, ↓cond_and, ↓cond_or, ↓cond_not, ↓cond_ite, ↓if_pos, ↓if_neg, ↓if_true, ↓if_false, List.take_length, Nat.le_refl, Bool.not_true, Bool.not_false, Int.toNat_natCast, h, wrap_i64', if_neg (show ¬ (x.1 ≠ 1) by simp [h1]), h2, get_D' (0 : Int), ha]
  rfl)
theorem nB_old {x : Out18} (h : l[k]? = some x) (hl : k < 1000000) (h1 : x.1 = 1) (hs : 0 ≤ s ∧ s ≤ 2147483647) (h2 : x.2.2.1 = s) (h3 : x.2.1 = c) (hi : 0 ≤ i ∧ i.toNat < a.length) (ha : ¬ a.getD i.toNat 0 < 192) : loopO (nB a i l) ((k : Int), (c, s)) = loopO (nB a i l) (((k + 1 : Nat) : Int), (c, s)) := loopO_next (by
  have hk := (List.getElem?_eq_some_iff.1 h).1
  unfold nB
  simp (disch := omega) only [↓bindO_some, ↓bindO_none, ↓joinO_inl, ↓joinO_inr, ↓joinO_none, ↓outO_some, ↓outO_none, ↓cond_true, ↓cond_false, ↓cond_and, ↓cond_or, ↓cond_not, ↓cond_ite, ↓if_pos, ↓if_neg, ↓if_true, ↓if_false, List.take_length, Nat.le_refl, Bool.not_true, Bool.not_false, Int.toNat_natCast, h, wrap_i64', if_neg (show ¬ (x.1 ≠ 1) by simp [h1]), h2, h3, get_D' (0 : Int), if_neg ha, ne_eq, not_true_eq_false]
  rfl)
theorem nB_send (d n : Int) (hs : 0 ≤ s ∧ s ≤ 2147483647) (h2 : n = s + 1) (hi : 0 ≤ i ∧ i.toNat < a.length) (ha : a.getD i.toNat 0 < 192) : loopO (nB a i (outSend d n)) (0, (c, s)) = some (.inl (3, (d, s + 1))) := by
  show loopO (nB a i (outSend d n)) (((0 : Nat) : Int), (c, s)) = _
  rw [nB_new (x := (1, (d, (n, (0, 0))))) rfl (by omega) rfl hs h2 hi ha, nB_skip (x := (3, (0, (0, (1, 500))))) rfl (by omega) (by simp), nB_skip (x := (3, (0, (0, (2, 32000))))) rfl (by omega) (by simp), nB_end (by simp [outSend])]
  rfl
theorem nB_fin (d : Int) : loopO (nB a i (outFin d)) (0, (c, s)) = some (.inl (1, (c, s))) := by
  show loopO (nB a i (outFin d)) (((0 : Nat) : Int), (c, s)) = _
  rw [nB_skip (x := (2, (d, (0, (0, 0))))) rfl (by omega) (by simp), nB_end (by simp [outFin])]
  rfl
theorem nB_fail : loopO (nB a i [(4, (0, (0, (0, 0))))]) (0, (c, s)) = some (.inl (1, (c, s))) := by
  show loopO (nB a i _) (((0 : Nat) : Int), (c, s)) = _
  rw [nB_skip (x := (4, (0, (0, (0, 0))))) rfl (by omega) (by simp), nB_end (by simp)]
  rfl
theorem nB_nil : loopO (nB a i []) (0, (c, s)) = some (.inl (0, (c, s))) := nB_end (k := 0) (by simp)
theorem nB_fire (w : Int) (hs : 0 ≤ s ∧ s ≤ 2147483647) (hi : 0 ≤ i ∧ i.toNat < a.length) (ha : ¬ a.getD i.toNat 0 < 192) : loopO (nB a i [(1, (c, (s, (0, 0)))), (3, (0, (0, (1, w))))]) (0, (c, s)) = some (.inl (2, (c, s))) := by
  show loopO (nB a i _) (((0 : Nat) : Int), (c, s)) = _
  rw [nB_old (x := (1, (c, (s, (0, 0))))) rfl (by omega) rfl hs rfl rfl hi ha, nB_skip (x := (3, (0, (0, (1, w))))) rfl (by omega) (by simp), nB_end (by simp)]
  rfl
end
/-- What stays so: the number and the code of the one that waits. -/
def NInv (a1 : List Int) : S18 → Prop := fun (i, (c, (s, (r1, (r2, (r3, (r4, (r5, r6)))))))) => 0 ≤ i ∧ i ≤ 100 ∧ i ≤ (a1.length : Int) ∧ MayP r1 r2 r3 r4 r5 r6 ∧ s = r1 ∧ (r2 ≠ 0 → c = r2)
def NMu : S18 → Nat := fun x => (100 - x.1).toNat
theorem offer_bb {β : Type} {a1 a2 a3 : Int} {a4 : List Int} {a5 a6 : Bool} (h : MayP a1 a2 a3 a4 a5 a6) (c : Int) (f : Rel18 × (List Out18 × Int) → Option β) : bindO (provisional_Offer ((a1, (a2, (a3, (a4, (a5, a6))))), c)) f = f (OfferR (a1, (a2, (a3, (a4, (a5, a6))))) c) := by rw [offer_j h]; rfl
theorem ack_bb {β : Type} {a1 a2 a3 : Int} {a4 : List Int} {a5 a6 : Bool} (h : MayP a1 a2 a3 a4 a5 a6) (c : Int) (f : Rel18 × (List Out18 × Int) → Option β) : bindO (provisional_Ack ((a1, (a2, (a3, (a4, (a5, a6))))), c)) f = f (AckR (a1, (a2, (a3, (a4, (a5, a6))))) c) := by rw [ack_j h]; rfl
theorem fire_bb {β : Type} {a1 a2 a3 : Int} {a4 : List Int} {a5 a6 : Bool} (h : MayP a1 a2 a3 a4 a5 a6) (c : Int) (f : Rel18 × (List Out18 × Int) → Option β) : bindO (provisional_Fire ((a1, (a2, (a3, (a4, (a5, a6))))), c)) f = f (FireR (a1, (a2, (a3, (a4, (a5, a6))))) c) := by rw [fire_j h]; rfl
theorem get_bz {α β : Type} {l : List α} {v : Int} (d : α) (f : α → Option β) (h : 0 ≤ v ∧ v < (l.length : Int)) : bindO l[Int.toNat v]? f = f (l.getD v.toNat d) := by rw [get_D' d (by omega)]; rfl
theorem get_b {α β : Type} {l : List α} {i : Nat} (d : α) (f : α → Option β) (h1 : i < l.length) : bindO l[i]? f = f (l.getD i d) := by rw [get_D' d h1]; rfl
/-- The rest of a round, behind the step. -/
theorem n_ok {a1 : List Int} {Q : ((Int × Rel18) ⊕ Bool) → Prop} (k : Nat) (hk : k < a1.length ∧ k < 100) {c s r1 r2 r3 : Int} {r4 : List Int} {r5 r6 : Bool} (hm : MayP r1 r2 r3 r4 r5 r6) (hs : s = r1) (hc : r2 ≠ 0 → c = r2) :
    PostS (NInv a1) Q NMu ((100 - (k : Int)).toNat) (some (Sum.inl ((k : Int) + 1, (c, (s, (r1, (r2, (r3, (r4, (r5, r6)))))))))) := by
  exact .next ⟨by omega, by omega, by omega, hm, hs, hc⟩ (by show (100 - ((k : Int) + 1)).toNat < (100 - (k : Int)).toNat; omega)
def NQ : (Int × Rel18) ⊕ Bool → Prop := fun r => joinO (some r) (fun (v130, (v131, (v132, (v133, (v134, (v135, v136)))))) => bif (decide (v131 = v130)) then some true else some false) = some true
theorem n_round (a1 : List Int) (hb : Bytes a1) (x : S18) (hx : NInv a1 x) : PostS (NInv a1) NQ NMu (NMu x) (NB a1 x) := by
  obtain ⟨i, c, s, r1, r2, r3, r4, r5, r6⟩ := x
  obtain ⟨hi0, hi1, hi2, hm, rfl, hc⟩ := hx
  have hs0 := hm.s0
  have hs1 := hm.s1
  obtain ⟨k, rfl⟩ := Int.eq_ofNat_of_zero_le hi0
  by_cases hk : k < a1.length ∧ k < 100
  · have hX := hb.getD k
    have fin : ∀ {c s r1 r2 r3 : Int} {r4 : List Int} {r5 r6 : Bool}, MayP r1 r2 r3 r4 r5 r6 → s = r1 → (r2 ≠ 0 → c = r2) → PostS (NInv a1) NQ NMu ((100 - (k : Int)).toNat) (some (Sum.inl ((k : Int) + 1, (c, (s, (r1, (r2, (r3, (r4, (r5, r6)))))))))) := fun hm hs hc => n_ok k hk hm hs hc
    have hi' : 0 ≤ (k : Int) ∧ (k : Int).toNat < a1.length := by omega
    unfold NB
    by_cases h1 : a1.getD k 0 < 120
    · have ht0 : 0 ≤ (a1.getD k 0).tmod 99 := Int.tmod_nonneg _ hX.1
      have ht1 : (a1.getD k 0).tmod 99 < 99 := Int.tmod_lt_of_pos _ (by omega)
      simp (disch := omega) only [↓bindO_some, ↓bindO_none, ↓joinO_inl, ↓joinO_inr, ↓joinO_none, ↓outO_some, ↓outO_none, ↓cond_true, ↓cond_false, ↓cond_and, ↓cond_or, ↓cond_not, ↓cond_ite, ↓if_pos, ↓if_neg, ↓if_true, ↓if_false, List.take_length, Nat.le_refl, Bool.not_true, Bool.not_false, ↓get_bz (0 : Int), Int.toNat_natCast, wrap_i64', ↓offer_bb hm, ↓ack_bb hm, ↓fire_bb hm]
      have hd : Pc (101 + (a1.getD k 0).tmod 99) := by unfold Pc; omega
      generalize 101 + (a1.getD k 0).tmod 99 = d at *
      cases r5 with
      | true =>
        simp (disch := omega) only [offer_state hm d (by omega) rfl, err18, ↓bindO_some, ↓bindO_none, ↓joinO_inl, ↓joinO_inr, ↓joinO_none, ↓outO_some, ↓outO_none, ↓cond_true, ↓cond_false, ↓cond_and, ↓cond_or, ↓cond_not, ↓cond_ite, ↓if_pos, ↓if_neg, ↓if_true, ↓if_false, List.take_length, Nat.le_refl, Bool.not_true, Bool.not_false, ↓get_bz (0 : Int), Int.toNat_natCast, List.length_nil, ne_eq, not_true_eq_false, not_false_eq_true, Int.natCast_zero]
        exact fin hm rfl hc
      | false =>
        obtain rfl := may_f' hm rfl
        by_cases h0 : r2 = 0
        · obtain ⟨rfl, rfl⟩ := may_q0 hm h0
          subst h0
          by_cases hn : s < 2147483647
          · obtain ⟨e, hm'⟩ := offer_p0 hm d hd rfl rfl hn
            simp (disch := omega) only [e, ↓bindO_some, ↓bindO_none, ↓joinO_inl, ↓joinO_inr, ↓joinO_none, ↓outO_some, ↓outO_none, ↓cond_true, ↓cond_false, ↓cond_and, ↓cond_or, ↓cond_not, ↓cond_ite, ↓if_pos, ↓if_neg, ↓if_true, ↓if_false, List.take_length, Nat.le_refl, Bool.not_true, Bool.not_false, ↓get_bz (0 : Int), Int.toNat_natCast, List.length_nil, ne_eq, not_true_eq_false, not_false_eq_true, Int.natCast_zero, ↓mayT_b hm', nB_send d (s + 1) ⟨hs0, hs1⟩ rfl hi' (show a1.getD (k : Int).toNat 0 < 192 by rw [Int.toNat_natCast]; omega)]
            exact fin hm' rfl (fun _ => rfl)
          · simp (disch := omega) only [offer_full hm d (by omega) rfl (.inr ⟨by omega, by simp; omega⟩), err18, ↓bindO_some, ↓bindO_none, ↓joinO_inl, ↓joinO_inr, ↓joinO_none, ↓outO_some, ↓outO_none, ↓cond_true, ↓cond_false, ↓cond_and, ↓cond_or, ↓cond_not, ↓cond_ite, ↓if_pos, ↓if_neg, ↓if_true, ↓if_false, List.take_length, Nat.le_refl, Bool.not_true, Bool.not_false, ↓get_bz (0 : Int), Int.toNat_natCast, List.length_nil, ne_eq, not_true_eq_false, not_false_eq_true, Int.natCast_zero]
            exact fin hm rfl hc
        · by_cases hn : r4.length < 16 ∧ s + (r4.length : Int) < 2147483647
          · obtain ⟨e, hm'⟩ := offer_p1 hm d hd rfl h0 hn.1 hn.2
            simp (disch := omega) only [e, ↓bindO_some, ↓bindO_none, ↓joinO_inl, ↓joinO_inr, ↓joinO_none, ↓outO_some, ↓outO_none, ↓cond_true, ↓cond_false, ↓cond_and, ↓cond_or, ↓cond_not, ↓cond_ite, ↓if_pos, ↓if_neg, ↓if_true, ↓if_false, List.take_length, Nat.le_refl, Bool.not_true, Bool.not_false, ↓get_bz (0 : Int), Int.toNat_natCast, List.length_nil, ne_eq, not_true_eq_false, not_false_eq_true, Int.natCast_zero, ↓mayT_b hm', nB_nil]
            exact fin hm' rfl hc
          · simp (disch := omega) only [offer_full hm d (by omega) rfl (by omega), err18, ↓bindO_some, ↓bindO_none, ↓joinO_inl, ↓joinO_inr, ↓joinO_none, ↓outO_some, ↓outO_none, ↓cond_true, ↓cond_false, ↓cond_and, ↓cond_or, ↓cond_not, ↓cond_ite, ↓if_pos, ↓if_neg, ↓if_true, ↓if_false, List.take_length, Nat.le_refl, Bool.not_true, Bool.not_false, ↓get_bz (0 : Int), Int.toNat_natCast, List.length_nil, ne_eq, not_true_eq_false, not_false_eq_true, Int.natCast_zero]
            exact fin hm rfl hc
    by_cases h2 : a1.getD k 0 < 128
    · have hd : List.getD ((202 : Int) :: ((404 : Int) :: ([] : List Int))) (Int.toNat ((a1.getD k 0).tmod 2)) (0 : Int) = 202 ∨ List.getD ((202 : Int) :: ((404 : Int) :: ([] : List Int))) (Int.toNat ((a1.getD k 0).tmod 2)) (0 : Int) = 404 := by
        have ht0 : 0 ≤ (a1.getD k 0).tmod 2 := Int.tmod_nonneg _ hX.1
        have ht1 : (a1.getD k 0).tmod 2 < 2 := Int.tmod_lt_of_pos _ (by omega)
        rcases (by omega : (a1.getD k 0).tmod 2 = 0 ∨ (a1.getD k 0).tmod 2 = 1) with e | e <;> rw [e]
        · left; rfl
        · right; rfl
      have ht0 : 0 ≤ (a1.getD k 0).tmod 2 := Int.tmod_nonneg _ hX.1
      have ht1 : (a1.getD k 0).tmod 2 < 2 := Int.tmod_lt_of_pos _ (by omega)
      simp (disch := omega) only [↓bindO_some, ↓bindO_none, ↓joinO_inl, ↓joinO_inr, ↓joinO_none, ↓outO_some, ↓outO_none, ↓cond_true, ↓cond_false, ↓cond_and, ↓cond_or, ↓cond_not, ↓cond_ite, ↓if_pos, ↓if_neg, ↓if_true, ↓if_false, List.take_length, Nat.le_refl, Bool.not_true, Bool.not_false, ↓get_bz (0 : Int), Int.toNat_natCast, wrap_i64', ↓offer_bb hm, ↓ack_bb hm, ↓fire_bb hm]
      generalize List.getD ((202 : Int) :: ((404 : Int) :: ([] : List Int))) (Int.toNat ((a1.getD k 0).tmod 2)) (0 : Int) = d at *
      cases r5 with
      | true =>
        simp (disch := omega) only [offer_state hm d (by omega) rfl, err18, ↓bindO_some, ↓bindO_none, ↓joinO_inl, ↓joinO_inr, ↓joinO_none, ↓outO_some, ↓outO_none, ↓cond_true, ↓cond_false, ↓cond_and, ↓cond_or, ↓cond_not, ↓cond_ite, ↓if_pos, ↓if_neg, ↓if_true, ↓if_false, List.take_length, Nat.le_refl, Bool.not_true, Bool.not_false, ↓get_bz (0 : Int), Int.toNat_natCast, List.length_nil, ne_eq, not_true_eq_false, not_false_eq_true, Int.natCast_zero]
        exact fin hm rfl hc
      | false =>
        obtain rfl := may_f' hm rfl
        rcases hd with rfl | rfl
        · by_cases h0 : r2 = 0
          · obtain ⟨e, hm'⟩ := offer_a0 hm 202 (by unfold Ac; omega) rfl h0
            simp (disch := omega) only [e, ↓bindO_some, ↓bindO_none, ↓joinO_inl, ↓joinO_inr, ↓joinO_none, ↓outO_some, ↓outO_none, ↓cond_true, ↓cond_false, ↓cond_and, ↓cond_or, ↓cond_not, ↓cond_ite, ↓if_pos, ↓if_neg, ↓if_true, ↓if_false, List.take_length, Nat.le_refl, Bool.not_true, Bool.not_false, ↓get_bz (0 : Int), Int.toNat_natCast, List.length_nil, ne_eq, not_true_eq_false, not_false_eq_true, Int.natCast_zero, ↓mayT_b hm', nB_fin]
            exact fin hm' rfl (fun h => absurd rfl h)
          · by_cases hn : r4.length < 16
            · obtain ⟨e, hm'⟩ := offer_a1 hm 202 (by unfold Ac; omega) rfl h0 hn
              simp (disch := omega) only [e, ↓bindO_some, ↓bindO_none, ↓joinO_inl, ↓joinO_inr, ↓joinO_none, ↓outO_some, ↓outO_none, ↓cond_true, ↓cond_false, ↓cond_and, ↓cond_or, ↓cond_not, ↓cond_ite, ↓if_pos, ↓if_neg, ↓if_true, ↓if_false, List.take_length, Nat.le_refl, Bool.not_true, Bool.not_false, ↓get_bz (0 : Int), Int.toNat_natCast, List.length_nil, ne_eq, not_true_eq_false, not_false_eq_true, Int.natCast_zero, ↓mayT_b hm', nB_nil]
              exact fin hm' rfl hc
            · simp (disch := omega) only [offer_full hm 202 (by omega) rfl (by omega), err18, ↓bindO_some, ↓bindO_none, ↓joinO_inl, ↓joinO_inr, ↓joinO_none, ↓outO_some, ↓outO_none, ↓cond_true, ↓cond_false, ↓cond_and, ↓cond_or, ↓cond_not, ↓cond_ite, ↓if_pos, ↓if_neg, ↓if_true, ↓if_false, List.take_length, Nat.le_refl, Bool.not_true, Bool.not_false, ↓get_bz (0 : Int), Int.toNat_natCast, List.length_nil, ne_eq, not_true_eq_false, not_false_eq_true, Int.natCast_zero]
              exact fin hm rfl hc
        · obtain ⟨e, hm'⟩ := offer_r hm 404 (by omega) rfl
          simp (disch := omega) only [e, ↓bindO_some, ↓bindO_none, ↓joinO_inl, ↓joinO_inr, ↓joinO_none, ↓outO_some, ↓outO_none, ↓cond_true, ↓cond_false, ↓cond_and, ↓cond_or, ↓cond_not, ↓cond_ite, ↓if_pos, ↓if_neg, ↓if_true, ↓if_false, List.take_length, Nat.le_refl, Bool.not_true, Bool.not_false, ↓get_bz (0 : Int), Int.toNat_natCast, List.length_nil, ne_eq, not_true_eq_false, not_false_eq_true, Int.natCast_zero, ↓mayT_b hm', nB_fin]
          exact fin hm' rfl (fun h => absurd rfl h)
    by_cases h3 : a1.getD k 0 < 192
    · simp (disch := omega) only [↓bindO_some, ↓bindO_none, ↓joinO_inl, ↓joinO_inr, ↓joinO_none, ↓outO_some, ↓outO_none, ↓cond_true, ↓cond_false, ↓cond_and, ↓cond_or, ↓cond_not, ↓cond_ite, ↓if_pos, ↓if_neg, ↓if_true, ↓if_false, List.take_length, Nat.le_refl, Bool.not_true, Bool.not_false, ↓get_bz (0 : Int), Int.toNat_natCast, wrap_i64', ↓offer_bb hm, ↓ack_bb hm, ↓fire_bb hm]
      by_cases h0 : r2 = 0
      · simp (disch := omega) only [ack_none hm s (.inl h0), err18, ↓bindO_some, ↓bindO_none, ↓joinO_inl, ↓joinO_inr, ↓joinO_none, ↓outO_some, ↓outO_none, ↓cond_true, ↓cond_false, ↓cond_and, ↓cond_or, ↓cond_not, ↓cond_ite, ↓if_pos, ↓if_neg, ↓if_true, ↓if_false, List.take_length, Nat.le_refl, Bool.not_true, Bool.not_false, ↓get_bz (0 : Int), Int.toNat_natCast, List.length_nil, ne_eq, not_true_eq_false, not_false_eq_true, Int.natCast_zero]
        exact fin hm rfl hc
      · obtain rfl := may_f hm h0
        cases r4 with
        | nil =>
          obtain ⟨e, hm'⟩ := ack_nil hm h0 rfl
          simp (disch := omega) only [e, ↓bindO_some, ↓bindO_none, ↓joinO_inl, ↓joinO_inr, ↓joinO_none, ↓outO_some, ↓outO_none, ↓cond_true, ↓cond_false, ↓cond_and, ↓cond_or, ↓cond_not, ↓cond_ite, ↓if_pos, ↓if_neg, ↓if_true, ↓if_false, List.take_length, Nat.le_refl, Bool.not_true, Bool.not_false, ↓get_bz (0 : Int), Int.toNat_natCast, List.length_nil, ne_eq, not_true_eq_false, not_false_eq_true, Int.natCast_zero, ↓mayT_b hm', nB_nil]
          exact fin hm' rfl (fun h => absurd rfl h)
        | cons y l =>
          rcases qu_head hm.qu with ⟨q1, q2⟩ | ⟨q1, rfl, rfl⟩
          · obtain ⟨e, hm'⟩ := ack_p hm h0 rfl q1
            simp (disch := omega) only [e, ↓bindO_some, ↓bindO_none, ↓joinO_inl, ↓joinO_inr, ↓joinO_none, ↓outO_some, ↓outO_none, ↓cond_true, ↓cond_false, ↓cond_and, ↓cond_or, ↓cond_not, ↓cond_ite, ↓if_pos, ↓if_neg, ↓if_true, ↓if_false, List.take_length, Nat.le_refl, Bool.not_true, Bool.not_false, ↓get_bz (0 : Int), Int.toNat_natCast, List.length_nil, ne_eq, not_true_eq_false, not_false_eq_true, Int.natCast_zero, ↓mayT_b hm', nB_send y (s + 1) ⟨hs0, hs1⟩ rfl hi' (show a1.getD (k : Int).toNat 0 < 192 by rw [Int.toNat_natCast]; omega)]
            exact fin hm' rfl (fun _ => rfl)
          · obtain ⟨e, hm'⟩ := ack_a hm h0 rfl q1
            simp (disch := omega) only [e, ↓bindO_some, ↓bindO_none, ↓joinO_inl, ↓joinO_inr, ↓joinO_none, ↓outO_some, ↓outO_none, ↓cond_true, ↓cond_false, ↓cond_and, ↓cond_or, ↓cond_not, ↓cond_ite, ↓if_pos, ↓if_neg, ↓if_true, ↓if_false, List.take_length, Nat.le_refl, Bool.not_true, Bool.not_false, ↓get_bz (0 : Int), Int.toNat_natCast, List.length_nil, ne_eq, not_true_eq_false, not_false_eq_true, Int.natCast_zero, ↓mayT_b hm', nB_fin]
            exact fin hm' rfl (fun h => absurd rfl h)
    by_cases h4 : a1.getD k 0 < 250
    · simp (disch := omega) only [↓bindO_some, ↓bindO_none, ↓joinO_inl, ↓joinO_inr, ↓joinO_none, ↓outO_some, ↓outO_none, ↓cond_true, ↓cond_false, ↓cond_and, ↓cond_or, ↓cond_not, ↓cond_ite, ↓if_pos, ↓if_neg, ↓if_true, ↓if_false, List.take_length, Nat.le_refl, Bool.not_true, Bool.not_false, ↓get_bz (0 : Int), Int.toNat_natCast, wrap_i64', ↓offer_bb hm, ↓ack_bb hm, ↓fire_bb hm]
      by_cases h0 : r2 = 0
      · have e := fire_0 hm 1 (.inl rfl) h0
        cases r6 <;> simp (disch := omega) only [e, ↓bindO_some, ↓bindO_none, ↓joinO_inl, ↓joinO_inr, ↓joinO_none, ↓outO_some, ↓outO_none, ↓cond_true, ↓cond_false, ↓cond_and, ↓cond_or, ↓cond_not, ↓cond_ite, ↓if_pos, ↓if_neg, ↓if_true, ↓if_false, List.take_length, Nat.le_refl, Bool.not_true, Bool.not_false, ↓get_bz (0 : Int), Int.toNat_natCast, List.length_nil, ne_eq, not_true_eq_false, not_false_eq_true, Int.natCast_zero, ↓mayT_b hm, nB_nil]
        · exact fin hm rfl hc
        · exact fin hm rfl hc
      · obtain rfl := may_f hm h0
        obtain rfl := hc h0
        obtain ⟨e, hm'⟩ := fire_1 hm h0
        simp (disch := omega) only [e, ↓bindO_some, ↓bindO_none, ↓joinO_inl, ↓joinO_inr, ↓joinO_none, ↓outO_some, ↓outO_none, ↓cond_true, ↓cond_false, ↓cond_and, ↓cond_or, ↓cond_not, ↓cond_ite, ↓if_pos, ↓if_neg, ↓if_true, ↓if_false, List.take_length, Nat.le_refl, Bool.not_true, Bool.not_false, ↓get_bz (0 : Int), Int.toNat_natCast, List.length_nil, ne_eq, not_true_eq_false, not_false_eq_true, Int.natCast_zero, ↓mayT_b hm', nB_fire (minA (2 * r3) 32000) ⟨hs0, hs1⟩ hi' (show ¬ a1.getD (k : Int).toNat 0 < 192 by rw [Int.toNat_natCast]; omega)]
        exact fin hm' rfl (fun _ => rfl)
    · simp (disch := omega) only [↓bindO_some, ↓bindO_none, ↓joinO_inl, ↓joinO_inr, ↓joinO_none, ↓outO_some, ↓outO_none, ↓cond_true, ↓cond_false, ↓cond_and, ↓cond_or, ↓cond_not, ↓cond_ite, ↓if_pos, ↓if_neg, ↓if_true, ↓if_false, List.take_length, Nat.le_refl, Bool.not_true, Bool.not_false, ↓get_bz (0 : Int), Int.toNat_natCast, wrap_i64', ↓offer_bb hm, ↓ack_bb hm, ↓fire_bb hm]
      by_cases h0 : r2 = 0
      · have e := fire_0 hm 2 (.inr rfl) h0
        cases r6 <;> simp (disch := omega) only [e, ↓bindO_some, ↓bindO_none, ↓joinO_inl, ↓joinO_inr, ↓joinO_none, ↓outO_some, ↓outO_none, ↓cond_true, ↓cond_false, ↓cond_and, ↓cond_or, ↓cond_not, ↓cond_ite, ↓if_pos, ↓if_neg, ↓if_true, ↓if_false, List.take_length, Nat.le_refl, Bool.not_true, Bool.not_false, ↓get_bz (0 : Int), Int.toNat_natCast, List.length_nil, ne_eq, not_true_eq_false, not_false_eq_true, Int.natCast_zero, ↓mayT_b hm, nB_nil]
        · exact fin hm rfl hc
        · exact fin hm rfl hc
      · obtain rfl := may_f hm h0
        obtain ⟨e, hm'⟩ := fire_2 hm h0
        simp (disch := omega) only [e, ↓bindO_some, ↓bindO_none, ↓joinO_inl, ↓joinO_inr, ↓joinO_none, ↓outO_some, ↓outO_none, ↓cond_true, ↓cond_false, ↓cond_and, ↓cond_or, ↓cond_not, ↓cond_ite, ↓if_pos, ↓if_neg, ↓if_true, ↓if_false, List.take_length, Nat.le_refl, Bool.not_true, Bool.not_false, ↓get_bz (0 : Int), Int.toNat_natCast, List.length_nil, ne_eq, not_true_eq_false, not_false_eq_true, Int.natCast_zero, ↓mayT_b hm', nB_fail]
        exact fin hm' rfl (fun h => absurd rfl h)
  · have h : PostS (NInv a1) NQ NMu (NMu ((k : Int), (c, (s, (s, (r2, (r3, (r4, (r5, r6)))))))))  (some (.inr (.inl (s, (s, (r2, (r3, (r4, (r5, r6)))))))) : Option (S18 ⊕ ((Int × Rel18) ⊕ Bool))) := PostS.stop (by unfold NQ; simp [joinO])
    unfold NB
    by_cases hl : k < a1.length
    · simp (disch := omega) only [↓bindO_some, ↓bindO_none, ↓joinO_inl, ↓joinO_inr, ↓joinO_none, ↓outO_some, ↓outO_none, ↓cond_true, ↓cond_false, ↓cond_and, ↓cond_or, ↓cond_not, ↓cond_ite, ↓if_pos, ↓if_neg, ↓if_true, ↓if_false, List.take_length, Nat.le_refl, Bool.not_true, Bool.not_false]
      exact h
    · simp (disch := omega) only [↓bindO_some, ↓bindO_none, ↓joinO_inl, ↓joinO_inr, ↓joinO_none, ↓outO_some, ↓outO_none, ↓cond_true, ↓cond_false, ↓cond_and, ↓cond_or, ↓cond_not, ↓cond_ite, ↓if_pos, ↓if_neg, ↓if_true, ↓if_false, List.take_length, Nat.le_refl, Bool.not_true, Bool.not_false]
      exact h
theorem numbers_law (a : List Int) (hw : WfIs [(.tmp 0 false [(.dat (.list (.int .u8)))])] a) : dialtonelaw18_ProvisionalNumbers a = some true := by
  rw [numbers_eq]
  refine loopO_postG (NInv a) NMu (fun o => o = some true) (fun x hx => n_round a (wfBytes hw.1.1) x hx) ?_
  exact ⟨by omega, by omega, by omega, may_start, rfl, fun h => absurd rfl h⟩
end Go.Proofs.Ytonejiaiieiboaa
