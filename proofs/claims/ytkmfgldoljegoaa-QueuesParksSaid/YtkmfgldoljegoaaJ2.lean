/- Chapter 36, plain: parking lots, the calls. Printed by mk2.py. -/
import Derived.Test.YtkmfgldoljegoaaJ1
set_option linter.unusedVariables false
set_option linter.unusedSimpArgs false
set_option maxRecDepth 100000
namespace Go.Proofs.Ytkmfgldoljegoaa
open Go.RowKit
noncomputable def pdB (a4 : List Pl) (a5 : Int) : Int → Option (Int ⊕ (Unit ⊕ (Lt × (Int × Int)))) :=
(fun v10 =>
    bif (decide (v10 < (((List.length a4) : Nat) : Int))) then
     bif (decide (((0 : Int) ≤ v10) ∧ (v10 < (((List.length a4) : Nat) : Int)))) then 
      bindO a4[(Int.toNat v10)]? fun x11 =>
      bif (decide (x11.2.1 = a5)) then
       outO (outO (some (((0 : Int), ((0 : Int), ((0 : Int), ([] : List (Int × (Int × Int)))))), ((0 : Int), (7 : Int)))))
      else
       some (Sum.inl (Go.IntKind.wrap .i64 (v10 + (1 : Int))))
     else none
    else
     outO (some (Sum.inl ())))
noncomputable def pnB (a1 : Int) (a4 : List Pl) : Int → Option (Int ⊕ (Int ⊕ (Lt × (Int × Int)))) :=
(fun v13 =>
     bif (decide (v13 < (((List.length a4) : Nat) : Int))) then
      bif (decide (((0 : Int) ≤ v13) ∧ (v13 < (((List.length a4) : Nat) : Int)))) then 
       bindO a4[(Int.toNat v13)]? fun x14 =>
       bif (decide (x14.1 = (Go.IntKind.wrap .i64 (a1 + v13)))) then
        some (Sum.inl (Go.IntKind.wrap .i64 (v13 + (1 : Int))))
       else
        outO (some (Sum.inl v13))
      else none
     else
      outO (some (Sum.inl v13)))
theorem parkP_eq (a1 a2 a3 : Int) (a4 : List Pl) (a5 a6 : Int) : queues_Park ((a1, (a2, (a3, a4))), (a5, a6)) =

  joinO (bindO (queues_MayLot (a1, (a2, (a3, a4)))) fun x7 =>
   bif (!x7) then
    outO (some (((0 : Int), ((0 : Int), ((0 : Int), ([] : List (Int × (Int × Int)))))), ((0 : Int), (2 : Int))))
   else
    bindO (queues_within (a5, ((1 : Int), (2147483647 : Int)))) fun x8 =>
    bif (!x8) then
     outO (some (((0 : Int), ((0 : Int), ((0 : Int), ([] : List (Int × (Int × Int)))))), ((0 : Int), (2 : Int))))
    else
     bindO (queues_within (a6, ((0 : Int), (1099511627776 : Int)))) fun x9 =>
     bif (!x9) then
      outO (some (((0 : Int), ((0 : Int), ((0 : Int), ([] : List (Int × (Int × Int)))))), ((0 : Int), (2 : Int))))
     else
      some (Sum.inl ())) fun _ =>
  joinO (loopO (pdB a4 a5) (0 : Int)) fun _ =>
  bif (decide ((((List.length a4) : Nat) : Int) ≥ a2)) then
   some (((0 : Int), ((0 : Int), ((0 : Int), ([] : List (Int × (Int × Int)))))), ((0 : Int), (10 : Int)))
  else
   joinO (loopO (pnB a1 a4) (0 : Int)) fun v17 =>
   bindO (some (Go.IntKind.wrap .i64 ((((List.length a4) : Nat) : Int) + (1 : Int)))) fun x18 =>
   bif (decide (((0 : Int) ≤ (0 : Int)) ∧ (((0 : Int) ≤ x18) ∧ (((x18 * (24 : Int)) ≤ (140737488355328 : Int)) ∧ (x18 ≤ (9223372036854775807 : Int)))))) then 
    bif (decide (((0 : Int) ≤ v17) ∧ (v17 ≤ (((List.length a4) : Nat) : Int)))) then 
     bindO (some (List.take (Int.toNat v17) a4)) fun x19 =>
     bif (decide (0 ≤ (List.length (List.replicate (Int.toNat x18) ((0 : Int), ((0 : Int), (0 : Int))))))) then 
      bif (decide (((List.length ((List.take 0 (List.replicate (Int.toNat x18) ((0 : Int), ((0 : Int), (0 : Int))))) ++ x19)) * 24) ≤ 140737488355328)) then 
       bindO (some ((List.take 0 (List.replicate (Int.toNat x18) ((0 : Int), ((0 : Int), (0 : Int))))) ++ x19)) fun x20 =>
       bindO (some (Go.IntKind.wrap .i64 (a1 + v17))) fun x21 =>
       bindO (some (Go.IntKind.wrap .i64 (a6 + a3))) fun x22 =>
       bif (decide ((List.length x20) ≤ (List.length x20))) then 
        bif (decide (((List.length ((List.take (List.length x20) x20) ++ ((x21, (a5, x22)) :: ([] : List (Int × (Int × Int)))))) * 24) ≤ 140737488355328)) then 
         bindO (some ((List.take (List.length x20) x20) ++ ((x21, (a5, x22)) :: ([] : List (Int × (Int × Int)))))) fun x23 =>
         bif (decide (((0 : Int) ≤ v17) ∧ (v17 ≤ (((List.length a4) : Nat) : Int)))) then 
          bindO (some (List.drop (Int.toNat v17) a4)) fun x24 =>
          bif (decide ((List.length x23) ≤ (List.length x23))) then 
           bif (decide (((List.length ((List.take (List.length x23) x23) ++ x24)) * 24) ≤ 140737488355328)) then 
            bindO (some ((List.take (List.length x23) x23) ++ x24)) fun x25 =>
            bif (decide (((0 : Int) ≤ v17) ∧ (v17 < (((List.length x25) : Nat) : Int)))) then 
             bindO x25[(Int.toNat v17)]? fun x26 =>
             bif (decide ((List.length x25) ≤ (List.length x25))) then 
              some ((a1, (a2, (a3, (List.take (List.length x25) x25)))), (x26.1, (0 : Int)))
             else none
            else none
           else none
          else none
         else none
        else none
       else none
      else none
     else none
    else none
   else none := rfl
theorem parkR_eq (a1 a2 a3 : Int) (a4 : List Pl) (a5 a6 : Int) : dialtoneref36_Park ((a1, (a2, (a3, a4))), (a5, a6)) =

  joinO (bindO (dialtoneref36_MayLot (a1, (a2, (a3, a4)))) fun x7 =>
   bif (!x7) then
    outO (some (((0 : Int), ((0 : Int), ((0 : Int), ([] : List (Int × (Int × Int)))))), ((0 : Int), (2 : Int))))
   else
    bindO (dialtoneref36_id a5) fun x8 =>
    bif (!x8) then
     outO (some (((0 : Int), ((0 : Int), ((0 : Int), ([] : List (Int × (Int × Int)))))), ((0 : Int), (2 : Int))))
    else
     bif (decide (a6 ≥ (0 : Int))) then
      bif (!(decide (a6 ≤ (1099511627776 : Int)))) then
       outO (some (((0 : Int), ((0 : Int), ((0 : Int), ([] : List (Int × (Int × Int)))))), ((0 : Int), (2 : Int))))
      else
       some (Sum.inl ())
     else
      outO (some (((0 : Int), ((0 : Int), ((0 : Int), ([] : List (Int × (Int × Int)))))), ((0 : Int), (2 : Int))))) fun _ =>
  joinO (loopO (pdB a4 a5) (0 : Int)) fun _ =>
  joinO (loopO (pnB a1 a4) (0 : Int)) fun v16 =>
  bif (decide (v16 ≥ a2)) then
   some (((0 : Int), ((0 : Int), ((0 : Int), ([] : List (Int × (Int × Int)))))), ((0 : Int), (10 : Int)))
  else
   bif (decide (((0 : Int) ≤ v16) ∧ (v16 ≤ (((List.length a4) : Nat) : Int)))) then 
    bindO (some (List.take (Int.toNat v16) a4)) fun x17 =>
    bif (decide (((List.length x17) * 24) ≤ 140737488355328)) then 
     bindO (some (Go.IntKind.wrap .i64 (a1 + v16))) fun x19 =>
     bindO (some (Go.IntKind.wrap .i64 (a6 + a3))) fun x20 =>
     bif (decide ((List.length x17) ≤ (List.length x17))) then 
      bif (decide (((List.length ((List.take (List.length x17) x17) ++ ((x19, (a5, x20)) :: ([] : List (Int × (Int × Int)))))) * 24) ≤ 140737488355328)) then 
       bindO (some ((List.take (List.length x17) x17) ++ ((x19, (a5, x20)) :: ([] : List (Int × (Int × Int)))))) fun x21 =>
       bif (decide (((0 : Int) ≤ v16) ∧ (v16 ≤ (((List.length a4) : Nat) : Int)))) then 
        bindO (some (List.drop (Int.toNat v16) a4)) fun x22 =>
        bif (decide ((List.length x21) ≤ (List.length x21))) then 
         bif (decide (((List.length ((List.take (List.length x21) x21) ++ x22)) * 24) ≤ 140737488355328)) then 
          bindO (some ((List.take (List.length x21) x21) ++ x22)) fun x23 =>
          bif (decide ((List.length x23) ≤ (List.length x23))) then 
           some ((a1, (a2, (a3, (List.take (List.length x23) x23)))), ((Go.IntKind.wrap .i64 (a1 + v16)), (0 : Int)))
          else none
         else none
        else none
       else none
      else none
     else none
    else none
   else none := rfl
noncomputable def ffB (a1 a2 a3 : Int) (a4 : List Pl) (a5 : Int) : Int → Option (Int ⊕ (Unit ⊕ (Lt × (Int × Int)))) :=
(fun v7 =>
     bif (decide (v7 < (((List.length a4) : Nat) : Int))) then
      bif (decide (((0 : Int) ≤ v7) ∧ (v7 < (((List.length a4) : Nat) : Int)))) then 
       bindO a4[(Int.toNat v7)]? fun x8 =>
       bif (decide (x8.1 = a5)) then
        bif (decide ((((List.length a4) : Nat) : Int) = (0 : Int))) then
         bif (decide (((0 : Int) ≤ v7) ∧ (v7 ≤ (0 : Int)))) then 
          bindO (some (Go.IntKind.wrap .i64 (v7 + (1 : Int)))) fun x9 =>
          bif (decide (((0 : Int) ≤ x9) ∧ (x9 ≤ (0 : Int)))) then 
           outO (outO (some ((a1, (a2, (a3, ([] : List (Int × (Int × Int)))))), (x8.2.1, (0 : Int)))))
          else none
         else none
        else
         bif (decide (((0 : Int) ≤ (((List.length a4) : Nat) : Int)) ∧ (((((List.length a4) : Nat) : Int) ≤ (((List.length a4) : Nat) : Int)) ∧ ((((((List.length a4) : Nat) : Int) * (24 : Int)) ≤ (140737488355328 : Int)) ∧ ((((List.length a4) : Nat) : Int) ≤ (9223372036854775807 : Int)))))) then 
          bif (decide ((Int.toNat (((List.length a4) : Nat) : Int)) ≤ (List.length (List.replicate (Int.toNat (((List.length a4) : Nat) : Int)) ((0 : Int), ((0 : Int), (0 : Int))))))) then 
           bif (decide (((0 : Int) ≤ v7) ∧ (v7 ≤ (((Int.toNat (((List.length a4) : Nat) : Int)) : Nat) : Int)))) then 
            bindO (some (Go.IntKind.wrap .i64 (v7 + (1 : Int)))) fun x11 =>
            bif (decide (((0 : Int) ≤ x11) ∧ (x11 ≤ (((Int.toNat (((List.length a4) : Nat) : Int)) : Nat) : Int)))) then 
             bif ((decide (((Int.toNat x11) + ((Int.toNat (((List.length a4) : Nat) : Int)) - (Int.toNat x11))) ≤ (List.length (layL (List.replicate (Int.toNat (((List.length a4) : Nat) : Int)) ((0 : Int), ((0 : Int), (0 : Int)))) 0 (List.take (Int.toNat (((List.length a4) : Nat) : Int)) a4))))) && (decide (((Int.toNat v7) < (Int.toNat (((List.length a4) : Nat) : Int))) ∧ ((((Int.toNat v7) + (List.length (List.take ((Int.toNat (((List.length a4) : Nat) : Int)) - (Int.toNat x11)) (List.drop (Int.toNat x11) (layL (List.replicate (Int.toNat (((List.length a4) : Nat) : Int)) ((0 : Int), ((0 : Int), (0 : Int)))) 0 (List.take (Int.toNat (((List.length a4) : Nat) : Int)) a4)))))) ≤ (Int.toNat (((List.length a4) : Nat) : Int))) ∧ (((Int.toNat v7) + (List.length (List.take ((Int.toNat (((List.length a4) : Nat) : Int)) - (Int.toNat x11)) (List.drop (Int.toNat x11) (layL (List.replicate (Int.toNat (((List.length a4) : Nat) : Int)) ((0 : Int), ((0 : Int), (0 : Int)))) 0 (List.take (Int.toNat (((List.length a4) : Nat) : Int)) a4)))))) ≤ (List.length (layL (List.replicate (Int.toNat (((List.length a4) : Nat) : Int)) ((0 : Int), ((0 : Int), (0 : Int)))) 0 (List.take (Int.toNat (((List.length a4) : Nat) : Int)) a4)))))))) then 
              bindO (some ((List.take (Int.toNat v7) (layL (List.replicate (Int.toNat (((List.length a4) : Nat) : Int)) ((0 : Int), ((0 : Int), (0 : Int)))) 0 (List.take (Int.toNat (((List.length a4) : Nat) : Int)) a4))) ++ ((List.take ((Int.toNat (((List.length a4) : Nat) : Int)) - (Int.toNat x11)) (List.drop (Int.toNat x11) (layL (List.replicate (Int.toNat (((List.length a4) : Nat) : Int)) ((0 : Int), ((0 : Int), (0 : Int)))) 0 (List.take (Int.toNat (((List.length a4) : Nat) : Int)) a4)))) ++ (List.drop ((Int.toNat v7) + (List.length (List.take ((Int.toNat (((List.length a4) : Nat) : Int)) - (Int.toNat x11)) (List.drop (Int.toNat x11) (layL (List.replicate (Int.toNat (((List.length a4) : Nat) : Int)) ((0 : Int), ((0 : Int), (0 : Int)))) 0 (List.take (Int.toNat (((List.length a4) : Nat) : Int)) a4)))))) (layL (List.replicate (Int.toNat (((List.length a4) : Nat) : Int)) ((0 : Int), ((0 : Int), (0 : Int)))) 0 (List.take (Int.toNat (((List.length a4) : Nat) : Int)) a4)))))) fun x12 =>
              outO (outO (bif (decide (((Int.toNat v7) + (List.length (List.take ((Int.toNat (((List.length a4) : Nat) : Int)) - (Int.toNat x11)) (List.drop (Int.toNat x11) (layL (List.replicate (Int.toNat (((List.length a4) : Nat) : Int)) ((0 : Int), ((0 : Int), (0 : Int)))) 0 (List.take (Int.toNat (((List.length a4) : Nat) : Int)) a4)))))) ≤ (List.length x12))) then 
               some ((a1, (a2, (a3, (List.take ((Int.toNat v7) + (List.length (List.take ((Int.toNat (((List.length a4) : Nat) : Int)) - (Int.toNat x11)) (List.drop (Int.toNat x11) (layL (List.replicate (Int.toNat (((List.length a4) : Nat) : Int)) ((0 : Int), ((0 : Int), (0 : Int)))) 0 (List.take (Int.toNat (((List.length a4) : Nat) : Int)) a4)))))) x12)))), (x8.2.1, (0 : Int)))
              else none))
             else none
            else none
           else none
          else none
         else none
       else
        some (Sum.inl (Go.IntKind.wrap .i64 (v7 + (1 : Int))))
      else none
     else
      outO (some (Sum.inl ())))
theorem fetchP_eq (a1 a2 a3 : Int) (a4 : List Pl) (a5 : Int) : queues_Fetch ((a1, (a2, (a3, a4))), a5) =

  bindO (queues_MayLot (a1, (a2, (a3, a4)))) fun x6 =>
  bif (!x6) then
   some (((0 : Int), ((0 : Int), ((0 : Int), ([] : List (Int × (Int × Int)))))), ((0 : Int), (2 : Int)))
  else
   joinO (loopO (ffB a1 a2 a3 a4 a5) (0 : Int)) fun _ =>
   some (((0 : Int), ((0 : Int), ((0 : Int), ([] : List (Int × (Int × Int)))))), ((0 : Int), (8 : Int))) := rfl
noncomputable def frB (a4 : List Pl) (a5 : Int) : (Int × (List Pl × Int)) → Option ((Int × (List Pl × Int)) ⊕ ((List Pl × Int) ⊕ (Lt × (Int × Int)))) :=
(fun (v7, (v8, v9)) =>
     bif (decide (v7 < (((List.length a4) : Nat) : Int))) then
      bif (decide (((0 : Int) ≤ v7) ∧ (v7 < (((List.length a4) : Nat) : Int)))) then 
       bindO a4[(Int.toNat v7)]? fun x10 =>
       bif (decide (x10.1 = a5)) then
        bif (decide (((0 : Int) ≤ v7) ∧ (v7 < (((List.length a4) : Nat) : Int)))) then 
         bindO a4[(Int.toNat v7)]? fun x11 =>
         bif (decide ((List.length v8) ≤ (List.length v8))) then 
          some (Sum.inl ((Go.IntKind.wrap .i64 (v7 + (1 : Int))), ((List.take (List.length v8) v8), x11.2.1)))
         else none
        else none
       else
        bif (decide (((0 : Int) ≤ v7) ∧ (v7 < (((List.length a4) : Nat) : Int)))) then 
         bindO a4[(Int.toNat v7)]? fun x13 =>
         bif (decide ((List.length v8) ≤ (List.length v8))) then 
          bif (decide (((List.length ((List.take (List.length v8) v8) ++ ((x13.1, (x13.2.1, x13.2.2)) :: ([] : List (Int × (Int × Int)))))) * 24) ≤ 140737488355328)) then 
           bindO (some ((List.take (List.length v8) v8) ++ ((x13.1, (x13.2.1, x13.2.2)) :: ([] : List (Int × (Int × Int)))))) fun x14 =>
           bif (decide ((List.length x14) ≤ (List.length x14))) then 
            some (Sum.inl ((Go.IntKind.wrap .i64 (v7 + (1 : Int))), ((List.take (List.length x14) x14), v9)))
           else none
          else none
         else none
        else none
      else none
     else
      outO (bif (decide ((List.length v8) ≤ (List.length v8))) then 
       some (Sum.inl ((List.take (List.length v8) v8), v9))
      else none))
theorem fetchR_eq (a1 a2 a3 : Int) (a4 : List Pl) (a5 : Int) : dialtoneref36_Fetch ((a1, (a2, (a3, a4))), a5) =

  bindO (dialtoneref36_MayLot (a1, (a2, (a3, a4)))) fun x6 =>
  bif (!x6) then
   some (((0 : Int), ((0 : Int), ((0 : Int), ([] : List (Int × (Int × Int)))))), ((0 : Int), (2 : Int)))
  else
   joinO (loopO (frB a4 a5) ((0 : Int), (([] : List (Int × (Int × Int))), (0 : Int)))) fun (v16, v17) =>
   bif (decide (v17 = (0 : Int))) then
    some (((0 : Int), ((0 : Int), ((0 : Int), ([] : List (Int × (Int × Int)))))), ((0 : Int), (8 : Int)))
   else
    bif (decide ((List.length v16) ≤ (List.length v16))) then 
     some ((a1, (a2, (a3, (List.take (List.length v16) v16)))), (v17, (0 : Int)))
    else none := rfl
noncomputable def epB (a4 : List Pl) (a5 : Int) : (Int × (List Pl × List Int)) → Option ((Int × (List Pl × List Int)) ⊕ ((List Pl × List Int) ⊕ (Lt × List Int))) :=
(fun (v7, (v8, v9)) =>
     bif (decide (v7 < (((List.length a4) : Nat) : Int))) then
      bif (decide (((0 : Int) ≤ v7) ∧ (v7 < (((List.length a4) : Nat) : Int)))) then 
       bindO a4[(Int.toNat v7)]? fun x10 =>
       bif (decide (x10.2.2 ≤ a5)) then
        bif (decide ((List.length v9) ≤ (List.length v9))) then 
         bif (decide (((List.length ((List.take (List.length v9) v9) ++ (x10.2.1 :: ([] : List Int)))) * 8) ≤ 140737488355328)) then 
          bindO (some ((List.take (List.length v9) v9) ++ (x10.2.1 :: ([] : List Int)))) fun x11 =>
          bif ((decide ((List.length v8) ≤ (List.length v8))) && (decide ((List.length x11) ≤ (List.length x11)))) then 
           some (Sum.inl ((Go.IntKind.wrap .i64 (v7 + (1 : Int))), ((List.take (List.length v8) v8), (List.take (List.length x11) x11))))
          else none
         else none
        else none
       else
        bif (decide ((List.length v8) ≤ (List.length v8))) then 
         bif (decide (((List.length ((List.take (List.length v8) v8) ++ ((x10.1, (x10.2.1, x10.2.2)) :: ([] : List (Int × (Int × Int)))))) * 24) ≤ 140737488355328)) then 
          bindO (some ((List.take (List.length v8) v8) ++ ((x10.1, (x10.2.1, x10.2.2)) :: ([] : List (Int × (Int × Int)))))) fun x13 =>
          bif ((decide ((List.length x13) ≤ (List.length x13))) && (decide ((List.length v9) ≤ (List.length v9)))) then 
           some (Sum.inl ((Go.IntKind.wrap .i64 (v7 + (1 : Int))), ((List.take (List.length x13) x13), (List.take (List.length v9) v9))))
          else none
         else none
        else none
      else none
     else
      outO (bif ((decide ((List.length v8) ≤ (List.length v8))) && (decide ((List.length v9) ≤ (List.length v9)))) then 
       some (Sum.inl ((List.take (List.length v8) v8), (List.take (List.length v9) v9)))
      else none))
theorem expP_eq (a1 a2 a3 : Int) (a4 : List Pl) (a5 : Int) : queues_Expire ((a1, (a2, (a3, a4))), a5) =

  bindO (queues_MayLot (a1, (a2, (a3, a4)))) fun x6 =>
  bif (!x6) then
   some (((0 : Int), ((0 : Int), ((0 : Int), ([] : List (Int × (Int × Int)))))), ([] : List Int))
  else
   joinO (loopO (epB a4 a5) ((0 : Int), (([] : List (Int × (Int × Int))), ([] : List Int)))) fun (v15, v16) =>
   bif ((decide ((List.length v15) ≤ (List.length v15))) && (decide ((List.length v16) ≤ (List.length v16)))) then 
    some ((a1, (a2, (a3, (List.take (List.length v15) v15)))), (List.take (List.length v16) v16))
   else none := rfl
noncomputable def erB (a4 : List Pl) (a5 : Int) : (Int × (List Pl × List Int)) → Option ((Int × (List Pl × List Int)) ⊕ ((List Pl × List Int) ⊕ (Lt × List Int))) :=
(fun (v7, (v8, v9)) =>
     bif (decide (v7 < (((List.length a4) : Nat) : Int))) then
      bif (decide (((0 : Int) ≤ v7) ∧ (v7 < (((List.length a4) : Nat) : Int)))) then 
       bindO a4[(Int.toNat v7)]? fun x10 =>
       bif (decide (x10.2.2 ≤ a5)) then
        bif (decide (((0 : Int) ≤ v7) ∧ (v7 < (((List.length a4) : Nat) : Int)))) then 
         bindO a4[(Int.toNat v7)]? fun x11 =>
         bif (decide ((List.length v9) ≤ (List.length v9))) then 
          bif (decide (((List.length ((List.take (List.length v9) v9) ++ (x11.2.1 :: ([] : List Int)))) * 8) ≤ 140737488355328)) then 
           bindO (some ((List.take (List.length v9) v9) ++ (x11.2.1 :: ([] : List Int)))) fun x12 =>
           bif ((decide ((List.length v8) ≤ (List.length v8))) && (decide ((List.length x12) ≤ (List.length x12)))) then 
            some (Sum.inl ((Go.IntKind.wrap .i64 (v7 + (1 : Int))), ((List.take (List.length v8) v8), (List.take (List.length x12) x12))))
           else none
          else none
         else none
        else none
       else
        bif (decide (((0 : Int) ≤ v7) ∧ (v7 < (((List.length a4) : Nat) : Int)))) then 
         bindO a4[(Int.toNat v7)]? fun x14 =>
         bif (decide ((List.length v8) ≤ (List.length v8))) then 
          bif (decide (((List.length ((List.take (List.length v8) v8) ++ ((x14.1, (x14.2.1, x14.2.2)) :: ([] : List (Int × (Int × Int)))))) * 24) ≤ 140737488355328)) then 
           bindO (some ((List.take (List.length v8) v8) ++ ((x14.1, (x14.2.1, x14.2.2)) :: ([] : List (Int × (Int × Int)))))) fun x15 =>
           bif ((decide ((List.length x15) ≤ (List.length x15))) && (decide ((List.length v9) ≤ (List.length v9)))) then 
            some (Sum.inl ((Go.IntKind.wrap .i64 (v7 + (1 : Int))), ((List.take (List.length x15) x15), (List.take (List.length v9) v9))))
           else none
          else none
         else none
        else none
      else none
     else
      outO (bif ((decide ((List.length v8) ≤ (List.length v8))) && (decide ((List.length v9) ≤ (List.length v9)))) then 
       some (Sum.inl ((List.take (List.length v8) v8), (List.take (List.length v9) v9)))
      else none))
theorem expR_eq (a1 a2 a3 : Int) (a4 : List Pl) (a5 : Int) : dialtoneref36_Expire ((a1, (a2, (a3, a4))), a5) =

  bindO (dialtoneref36_MayLot (a1, (a2, (a3, a4)))) fun x6 =>
  bif (!x6) then
   some (((0 : Int), ((0 : Int), ((0 : Int), ([] : List (Int × (Int × Int)))))), ([] : List Int))
  else
   joinO (loopO (erB a4 a5) ((0 : Int), (([] : List (Int × (Int × Int))), ([] : List Int)))) fun (v17, v18) =>
   bif ((decide ((List.length v17) ≤ (List.length v17))) && (decide ((List.length v18) ≤ (List.length v18)))) then 
    some ((a1, (a2, (a3, (List.take (List.length v17) v17)))), (List.take (List.length v18) v18))
   else none := rfl
noncomputable def slB (a4 a8 : List Pl) : Int → Option (Int ⊕ (Unit ⊕ Bool)) :=
(fun v9 =>
    bif (decide (v9 < (((List.length a4) : Nat) : Int))) then
     bif (decide (((0 : Int) ≤ v9) ∧ (v9 < (((List.length a4) : Nat) : Int)))) then 
      bindO a4[(Int.toNat v9)]? fun x10 =>
      bif (decide (((0 : Int) ≤ v9) ∧ (v9 < (((List.length a8) : Nat) : Int)))) then 
       bindO a8[(Int.toNat v9)]? fun x11 =>
       bif (!((decide (x10.1 = x11.1)) && ((decide (x10.2.1 = x11.2.1)) && (decide (x10.2.2 = x11.2.2))))) then
        outO (outO (some Bool.false))
       else
        some (Sum.inl (Go.IntKind.wrap .i64 (v9 + (1 : Int))))
      else none
     else none
    else
     outO (some (Sum.inl ())))
theorem sameL_eq (a1 a2 a3 : Int) (a4 : List Pl) (a5 a6 a7 : Int) (a8 : List Pl) : dialtoneref36_SameLot ((a1, (a2, (a3, a4))), (a5, (a6, (a7, a8)))) =

  joinO (bif (decide (a1 ≠ a5)) then
    outO (some Bool.false)
   else
    bif (decide (a2 ≠ a6)) then
     outO (some Bool.false)
    else
     bif (decide (a3 ≠ a7)) then
      outO (some Bool.false)
     else
      bif (decide ((((List.length a4) : Nat) : Int) ≠ (((List.length a8) : Nat) : Int))) then
       outO (some Bool.false)
      else
       some (Sum.inl ())) fun _ =>
  joinO (loopO (slB a4 a8) (0 : Int)) fun _ =>
  some Bool.true := rfl
def LOT (f m s : Int) (l : List Pl) : Prop := LH f m s ∧ ∀ i, i < l.length → OKR f m l i
theorem mayP_j (f m s : Int) (l : List Pl) (hl : l.length ≤ 1000) : Is (queues_MayLot (f, (m, (s, l)))) (LOT f m s l) := by
  rw [mayP_eq]
  by_cases h1 : 1 ≤ f ∧ f ≤ 2147483547
  · skip
    by_cases h2 : 1 ≤ m ∧ m ≤ 100
    · skip
      by_cases h3 : 1 ≤ s ∧ s ≤ 86400000
      · skip
        simp (disch := (first | omega | (simp only [List.length_append, List.length_cons, List.length_nil, List.nil_append, List.length_take, List.length_drop]; omega))) only [↓bindO_some, ↓bindO_none, ↓joinO_inl, ↓joinO_inr, ↓joinO_none, ↓outO_some, ↓outO_none, ↓cond_true, ↓cond_false, ↓cond_and, ↓cond_or, ↓cond_not, ↓cond_ite, ↓if_pos, ↓if_neg, ↓if_true, ↓if_false, List.take_length, Nat.le_refl, Bool.not_true, Bool.not_false, ↓withinP_b, and_self, decide_true, decide_false, h1, h2, h3]
        rcases mo_j f m l h1 h2 hl with ⟨h, e⟩ | ⟨h, e⟩
        · rw [e]; exact Is.t ⟨⟨h1, h2, h3⟩, h⟩
        · rw [e]; exact Is.f fun k => h k.2
      · (simp (disch := (first | omega | (simp only [List.length_append, List.length_cons, List.length_nil, List.nil_append, List.length_take, List.length_drop]; omega))) only [↓bindO_some, ↓bindO_none, ↓joinO_inl, ↓joinO_inr, ↓joinO_none, ↓outO_some, ↓outO_none, ↓cond_true, ↓cond_false, ↓cond_and, ↓cond_or, ↓cond_not, ↓cond_ite, ↓if_pos, ↓if_neg, ↓if_true, ↓if_false, List.take_length, Nat.le_refl, Bool.not_true, Bool.not_false, ↓withinP_b, and_self, decide_true, decide_false, h1, h2, h3]; exact Is.f fun k => by unfold LOT LH at k; omega)
    · (simp (disch := (first | omega | (simp only [List.length_append, List.length_cons, List.length_nil, List.nil_append, List.length_take, List.length_drop]; omega))) only [↓bindO_some, ↓bindO_none, ↓joinO_inl, ↓joinO_inr, ↓joinO_none, ↓outO_some, ↓outO_none, ↓cond_true, ↓cond_false, ↓cond_and, ↓cond_or, ↓cond_not, ↓cond_ite, ↓if_pos, ↓if_neg, ↓if_true, ↓if_false, List.take_length, Nat.le_refl, Bool.not_true, Bool.not_false, ↓withinP_b, and_self, decide_true, decide_false, h1, h2]; exact Is.f fun k => by unfold LOT LH at k; omega)
  · (simp (disch := (first | omega | (simp only [List.length_append, List.length_cons, List.length_nil, List.nil_append, List.length_take, List.length_drop]; omega))) only [↓bindO_some, ↓bindO_none, ↓joinO_inl, ↓joinO_inr, ↓joinO_none, ↓outO_some, ↓outO_none, ↓cond_true, ↓cond_false, ↓cond_and, ↓cond_or, ↓cond_not, ↓cond_ite, ↓if_pos, ↓if_neg, ↓if_true, ↓if_false, List.take_length, Nat.le_refl, Bool.not_true, Bool.not_false, ↓withinP_b, and_self, decide_true, decide_false, h1]; exact Is.f fun k => by unfold LOT LH at k; omega)
theorem mayR_j (f m s : Int) (l : List Pl) (hl : l.length ≤ 1000) : Is (dialtoneref36_MayLot (f, (m, (s, l)))) (LOT f m s l) := by
  rw [mayR_eq]
  by_cases h1 : f ≥ 1
  · skip
    by_cases h2 : f ≤ 2147483547
    · skip
      by_cases h3 : m ≥ 1
      · skip
        by_cases h4 : m ≤ 100
        · skip
          by_cases h5 : s ≥ 1
          · skip
            by_cases h6 : s ≤ 86400000
            · skip
              simp (disch := (first | omega | (simp only [List.length_append, List.length_cons, List.length_nil, List.nil_append, List.length_take, List.length_drop]; omega))) only [↓bindO_some, ↓bindO_none, ↓joinO_inl, ↓joinO_inr, ↓joinO_none, ↓outO_some, ↓outO_none, ↓cond_true, ↓cond_false, ↓cond_and, ↓cond_or, ↓cond_not, ↓cond_ite, ↓if_pos, ↓if_neg, ↓if_true, ↓if_false, List.take_length, Nat.le_refl, Bool.not_true, Bool.not_false, and_self, decide_true, decide_false, h1, h2, h3, h4, h5, h6]
              rcases ro_j f m l ⟨h1, h2⟩ ⟨h3, h4⟩ hl with ⟨h, e⟩ | ⟨h, e⟩
              · rw [e]; exact Is.t ⟨⟨⟨h1, h2⟩, ⟨h3, h4⟩, ⟨h5, h6⟩⟩, h⟩
              · rw [e]; exact Is.f fun k => h k.2
            · (simp (disch := (first | omega | (simp only [List.length_append, List.length_cons, List.length_nil, List.nil_append, List.length_take, List.length_drop]; omega))) only [↓bindO_some, ↓bindO_none, ↓joinO_inl, ↓joinO_inr, ↓joinO_none, ↓outO_some, ↓outO_none, ↓cond_true, ↓cond_false, ↓cond_and, ↓cond_or, ↓cond_not, ↓cond_ite, ↓if_pos, ↓if_neg, ↓if_true, ↓if_false, List.take_length, Nat.le_refl, Bool.not_true, Bool.not_false, and_self, decide_true, decide_false, h1, h2, h3, h4, h5, h6]; exact Is.f fun k => by unfold LOT LH at k; omega)
          · (simp (disch := (first | omega | (simp only [List.length_append, List.length_cons, List.length_nil, List.nil_append, List.length_take, List.length_drop]; omega))) only [↓bindO_some, ↓bindO_none, ↓joinO_inl, ↓joinO_inr, ↓joinO_none, ↓outO_some, ↓outO_none, ↓cond_true, ↓cond_false, ↓cond_and, ↓cond_or, ↓cond_not, ↓cond_ite, ↓if_pos, ↓if_neg, ↓if_true, ↓if_false, List.take_length, Nat.le_refl, Bool.not_true, Bool.not_false, and_self, decide_true, decide_false, h1, h2, h3, h4, h5]; exact Is.f fun k => by unfold LOT LH at k; omega)
        · (simp (disch := (first | omega | (simp only [List.length_append, List.length_cons, List.length_nil, List.nil_append, List.length_take, List.length_drop]; omega))) only [↓bindO_some, ↓bindO_none, ↓joinO_inl, ↓joinO_inr, ↓joinO_none, ↓outO_some, ↓outO_none, ↓cond_true, ↓cond_false, ↓cond_and, ↓cond_or, ↓cond_not, ↓cond_ite, ↓if_pos, ↓if_neg, ↓if_true, ↓if_false, List.take_length, Nat.le_refl, Bool.not_true, Bool.not_false, and_self, decide_true, decide_false, h1, h2, h3, h4]; exact Is.f fun k => by unfold LOT LH at k; omega)
      · (simp (disch := (first | omega | (simp only [List.length_append, List.length_cons, List.length_nil, List.nil_append, List.length_take, List.length_drop]; omega))) only [↓bindO_some, ↓bindO_none, ↓joinO_inl, ↓joinO_inr, ↓joinO_none, ↓outO_some, ↓outO_none, ↓cond_true, ↓cond_false, ↓cond_and, ↓cond_or, ↓cond_not, ↓cond_ite, ↓if_pos, ↓if_neg, ↓if_true, ↓if_false, List.take_length, Nat.le_refl, Bool.not_true, Bool.not_false, and_self, decide_true, decide_false, h1, h2, h3]; exact Is.f fun k => by unfold LOT LH at k; omega)
    · (simp (disch := (first | omega | (simp only [List.length_append, List.length_cons, List.length_nil, List.nil_append, List.length_take, List.length_drop]; omega))) only [↓bindO_some, ↓bindO_none, ↓joinO_inl, ↓joinO_inr, ↓joinO_none, ↓outO_some, ↓outO_none, ↓cond_true, ↓cond_false, ↓cond_and, ↓cond_or, ↓cond_not, ↓cond_ite, ↓if_pos, ↓if_neg, ↓if_true, ↓if_false, List.take_length, Nat.le_refl, Bool.not_true, Bool.not_false, and_self, decide_true, decide_false, h1, h2]; exact Is.f fun k => by unfold LOT LH at k; omega)
  · (simp (disch := (first | omega | (simp only [List.length_append, List.length_cons, List.length_nil, List.nil_append, List.length_take, List.length_drop]; omega))) only [↓bindO_some, ↓bindO_none, ↓joinO_inl, ↓joinO_inr, ↓joinO_none, ↓outO_some, ↓outO_none, ↓cond_true, ↓cond_false, ↓cond_and, ↓cond_or, ↓cond_not, ↓cond_ite, ↓if_pos, ↓if_neg, ↓if_true, ↓if_false, List.take_length, Nat.le_refl, Bool.not_true, Bool.not_false, and_self, decide_true, decide_false, h1]; exact Is.f fun k => by unfold LOT LH at k; omega)
open Classical in
theorem mayP_b {β : Type} (f m s : Int) (l : List Pl) (hl : l.length ≤ 1000) (k : Bool → Option β) : bindO (queues_MayLot (f, (m, (s, l)))) k = k (decide (LOT f m s l)) := by rw [(mayP_j f m s l hl).dec]; rfl
open Classical in
theorem mayR_b {β : Type} (f m s : Int) (l : List Pl) (hl : l.length ≤ 1000) (k : Bool → Option β) : bindO (dialtoneref36_MayLot (f, (m, (s, l)))) k = k (decide (LOT f m s l)) := by rw [(mayR_j f m s l hl).dec]; rfl
/-! ### of a lot -/
abbrev Nm (l : List Pl) (i : Nat) : Int := (l.getD i p0).1
theorem lot_up {f m s : Int} {l : List Pl} (h : LOT f m s l) : ∀ k i, i + k < l.length → Nm l i + k ≤ Nm l (i + k) := by
  intro k
  induction k with
  | zero => intro i hi; simp
  | succ k ih =>
    intro i hi
    have h1 := ih i (by omega)
    have h2 := (h.2 (i + (k + 1)) hi).2.2.1 (by omega)
    rw [show i + (k + 1) - 1 = i + k from by omega] at h2
    unfold Nm at *
    omega
theorem lot_bnd {f m s : Int} {l : List Pl} (h : LOT f m s l) {i : Nat} (hi : i < l.length) : f + i ≤ Nm l i ∧ Nm l i + (l.length - 1 - i : Nat) ≤ f + m - 1 := by
  have h1 := lot_up h i 0 (by omega)
  have h2 := lot_up h (l.length - 1 - i) i (by omega)
  rw [show i + (l.length - 1 - i) = l.length - 1 from by omega] at h2
  have h3 := (h.2 0 (by omega)).1
  have h4 := (h.2 (l.length - 1) (by omega)).2.1
  rw [Nat.zero_add] at h1
  unfold Nm at *
  omega
theorem lot_inj {f m s : Int} {l : List Pl} (h : LOT f m s l) {i j : Nat} (hi : i < l.length) (hj : j < l.length) (e : Nm l i = Nm l j) : i = j := by
  rcases Nat.lt_trichotomy i j with g | g | g
  · have := lot_up h (j - i) i (by omega)
    rw [show i + (j - i) = j from by omega] at this
    omega
  · exact g
  · have := lot_up h (i - j) j (by omega)
    rw [show j + (i - j) = i from by omega] at this
    omega
theorem lot_len {f m s : Int} {l : List Pl} (h : LOT f m s l) : (l.length : Int) ≤ m := by
  rcases Nat.eq_zero_or_pos l.length with g | g
  · have := h.1; omega
  · have := lot_bnd h (show 0 < l.length from g)
    omega
/-! ### Park -/
theorem pd_j (l : List Pl) (c : Int) (hl : l.length ≤ 1000) : (∃ i, i < l.length ∧ (l.getD i p0).2.1 = c ∧ loopO (pdB l c) 0 = some (.inr ((0, (0, (0, []))), (0, 7)))) ∨ ((∀ i, i < l.length → (l.getD i p0).2.1 ≠ c) ∧ loopO (pdB l c) 0 = some (.inl ())) := by
  rcases loop_first (body := pdB l c) l.length (fun k => (l.getD k p0).2.1 = c) (fun _ => .inr ((0, (0, (0, []))), (0, 7))) (.inl ()) (fun k hk hb => by
      obtain ⟨x, hx, hxb⟩ := get_at p0 hk
      rw [hx] at hb
      unfold pdB
      simp (disch := (first | omega | (simp only [List.length_append, List.length_cons, List.length_nil, List.nil_append, List.length_take, List.length_drop]; omega))) only [↓bindO_some, ↓bindO_none, ↓joinO_inl, ↓joinO_inr, ↓joinO_none, ↓outO_some, ↓outO_none, ↓cond_true, ↓cond_false, ↓cond_and, ↓cond_or, ↓cond_not, ↓cond_ite, ↓if_pos, ↓if_neg, ↓if_true, ↓if_false, List.take_length, Nat.le_refl, Bool.not_true, Bool.not_false, if_pos, if_neg, ↓hxb, wrap_i64', nots, hb, decide_false])
    (fun k hk hb => by
      obtain ⟨x, hx, hxb⟩ := get_at p0 hk
      rw [hx] at hb
      unfold pdB
      simp (disch := (first | omega | (simp only [List.length_append, List.length_cons, List.length_nil, List.nil_append, List.length_take, List.length_drop]; omega))) only [↓bindO_some, ↓bindO_none, ↓joinO_inl, ↓joinO_inr, ↓joinO_none, ↓outO_some, ↓outO_none, ↓cond_true, ↓cond_false, ↓cond_and, ↓cond_or, ↓cond_not, ↓cond_ite, ↓if_pos, ↓if_neg, ↓if_true, ↓if_false, List.take_length, Nat.le_refl, Bool.not_true, Bool.not_false, if_pos, if_neg, ↓hxb, hb, decide_true])
    (by unfold pdB; simp (disch := (first | omega | (simp only [List.length_append, List.length_cons, List.length_nil, List.nil_append, List.length_take, List.length_drop]; omega))) only [↓bindO_some, ↓bindO_none, ↓joinO_inl, ↓joinO_inr, ↓joinO_none, ↓outO_some, ↓outO_none, ↓cond_true, ↓cond_false, ↓cond_and, ↓cond_or, ↓cond_not, ↓cond_ite, ↓if_pos, ↓if_neg, ↓if_true, ↓if_false, List.take_length, Nat.le_refl, Bool.not_true, Bool.not_false, if_neg]) with ⟨k, k1, k2, _, e⟩ | ⟨h, e⟩
  · exact .inl ⟨k, k1, k2, e⟩
  · exact .inr ⟨h, e⟩
theorem pn_j (f : Int) (l : List Pl) (hf : 1 ≤ f ∧ f ≤ 2147483547) (hl : l.length ≤ 1000) : ∃ i, i ≤ l.length ∧ (∀ j, j < i → Nm l j = f + j) ∧ (i < l.length → Nm l i ≠ f + i) ∧ loopO (pnB f l) 0 = some (.inl (i : Int)) := by
  rcases loop_first (body := pnB f l) l.length (fun k => ¬ Nm l k = f + k) (fun k => .inl (k : Int)) (.inl (l.length : Int)) (fun k hk hb => by
      obtain ⟨x, hx, hxb⟩ := get_at p0 hk
      have hb := Classical.not_not.1 hb
      unfold Nm at hb
      rw [hx] at hb
      unfold pnB
      simp (disch := (first | omega | (simp only [List.length_append, List.length_cons, List.length_nil, List.nil_append, List.length_take, List.length_drop]; omega))) only [↓bindO_some, ↓bindO_none, ↓joinO_inl, ↓joinO_inr, ↓joinO_none, ↓outO_some, ↓outO_none, ↓cond_true, ↓cond_false, ↓cond_and, ↓cond_or, ↓cond_not, ↓cond_ite, ↓if_pos, ↓if_neg, ↓if_true, ↓if_false, List.take_length, Nat.le_refl, Bool.not_true, Bool.not_false, if_pos, if_neg, ↓hxb, wrap_i64', nots, hb, decide_true])
    (fun k hk hb => by
      obtain ⟨x, hx, hxb⟩ := get_at p0 hk
      unfold Nm at hb
      rw [hx] at hb
      unfold pnB
      simp (disch := (first | omega | (simp only [List.length_append, List.length_cons, List.length_nil, List.nil_append, List.length_take, List.length_drop]; omega))) only [↓bindO_some, ↓bindO_none, ↓joinO_inl, ↓joinO_inr, ↓joinO_none, ↓outO_some, ↓outO_none, ↓cond_true, ↓cond_false, ↓cond_and, ↓cond_or, ↓cond_not, ↓cond_ite, ↓if_pos, ↓if_neg, ↓if_true, ↓if_false, List.take_length, Nat.le_refl, Bool.not_true, Bool.not_false, if_pos, if_neg, ↓hxb, wrap_i64', hb, decide_false])
    (by unfold pnB; simp (disch := (first | omega | (simp only [List.length_append, List.length_cons, List.length_nil, List.nil_append, List.length_take, List.length_drop]; omega))) only [↓bindO_some, ↓bindO_none, ↓joinO_inl, ↓joinO_inr, ↓joinO_none, ↓outO_some, ↓outO_none, ↓cond_true, ↓cond_false, ↓cond_and, ↓cond_or, ↓cond_not, ↓cond_ite, ↓if_pos, ↓if_neg, ↓if_true, ↓if_false, List.take_length, Nat.le_refl, Bool.not_true, Bool.not_false, if_neg]) with ⟨k, k1, k2, k3, e⟩ | ⟨h, e⟩
  · exact ⟨k, by omega, fun j hj => Classical.not_not.1 (k3 j hj), fun _ => k2, e⟩
  · exact ⟨l.length, Nat.le_refl _, fun j hj => Classical.not_not.1 (h j hj), fun g => absurd g (by omega), e⟩
theorem park_j (f m s : Int) (l : List Pl) (c t : Int) (hl : l.length ≤ 1000) : ∃ r, queues_Park ((f, (m, (s, l))), (c, t)) = some r ∧ dialtoneref36_Park ((f, (m, (s, l))), (c, t)) = some r ∧ r.1.2.2.2.length ≤ 100000 := by
  rw [parkP_eq, parkR_eq]
  by_cases h1 : LOT f m s l
  · by_cases h2 : 1 ≤ c ∧ c ≤ 2147483647
    · by_cases h3 : 0 ≤ t
      · by_cases h4 : t ≤ 1099511627776
        · have h3' : t ≥ 0 := h3
          simp (disch := (first | omega | (simp only [List.length_append, List.length_cons, List.length_nil, List.nil_append, List.length_take, List.length_drop]; omega))) only [↓bindO_some, ↓bindO_none, ↓joinO_inl, ↓joinO_inr, ↓joinO_none, ↓outO_some, ↓outO_none, ↓cond_true, ↓cond_false, ↓cond_and, ↓cond_or, ↓cond_not, ↓cond_ite, ↓if_pos, ↓if_neg, ↓if_true, ↓if_false, List.take_length, Nat.le_refl, Bool.not_true, Bool.not_false, ↓mayP_b, ↓mayR_b, ↓withinP_b, ↓idR_b, h1, h2, h3, h3', h4, and_self, decide_true]
          rcases pd_j l c hl with ⟨i, _, _, e⟩ | ⟨_, e⟩
          · rw [e]; first | exact ⟨_, rfl, rfl, (by first | exact Nat.zero_le _ | (simp only [List.length_append, List.length_cons, List.length_nil, List.length_take, List.length_drop]; omega))⟩ | exact ⟨_, rfl, (by first | exact Nat.zero_le _ | (simp only [List.length_append, List.length_cons, List.length_nil, List.length_take, List.length_drop]; omega))⟩
          · simp only [e, ↓bindO_some, ↓bindO_none, ↓joinO_inl, ↓joinO_inr, ↓joinO_none, ↓outO_some, ↓outO_none, ↓cond_true, ↓cond_false, ↓cond_and, ↓cond_or, ↓cond_not, ↓cond_ite, ↓if_pos, ↓if_neg, ↓if_true, ↓if_false, List.take_length, Nat.le_refl, Bool.not_true, Bool.not_false]
            obtain ⟨i, i1, i2, i3, e⟩ := pn_j f l h1.1.1 hl
            simp only [e, ↓bindO_some, ↓bindO_none, ↓joinO_inl, ↓joinO_inr, ↓joinO_none, ↓outO_some, ↓outO_none, ↓cond_true, ↓cond_false, ↓cond_and, ↓cond_or, ↓cond_not, ↓cond_ite, ↓if_pos, ↓if_neg, ↓if_true, ↓if_false, List.take_length, Nat.le_refl, Bool.not_true, Bool.not_false]
            have hlen := lot_len h1
            obtain ⟨⟨f1, f2⟩, ⟨m1, m2⟩, ⟨s1, s2⟩⟩ := h1.1
            by_cases h5 : (l.length : Int) ≥ m
            · have : ¬ i < l.length := fun g => by
                have := lot_bnd h1 g
                exact i3 g (by omega)
              have h6 : (i : Int) ≥ m := by omega
              simp only [↓bindO_some, ↓bindO_none, ↓joinO_inl, ↓joinO_inr, ↓joinO_none, ↓outO_some, ↓outO_none, ↓cond_true, ↓cond_false, ↓cond_and, ↓cond_or, ↓cond_not, ↓cond_ite, ↓if_pos, ↓if_neg, ↓if_true, ↓if_false, List.take_length, Nat.le_refl, Bool.not_true, Bool.not_false, h5, h6, decide_true]
              first | exact ⟨_, rfl, rfl, (by first | exact Nat.zero_le _ | (simp only [List.length_append, List.length_cons, List.length_nil, List.length_take, List.length_drop]; omega))⟩ | exact ⟨_, rfl, (by first | exact Nat.zero_le _ | (simp only [List.length_append, List.length_cons, List.length_nil, List.length_take, List.length_drop]; omega))⟩
            · have h6 : ¬ (i : Int) ≥ m := by omega
              have hti : (l.take i).length = i := by rw [List.length_take]; omega
              have hdi : (l.drop i).length = l.length - i := by rw [List.length_drop]
              obtain ⟨x, hx⟩ : ∃ x, (f + i, (c, t + s)) = x := ⟨_, rfl⟩
              simp (disch := (first | omega | (simp only [List.length_append, List.length_cons, List.length_nil, List.nil_append, List.length_take, List.length_drop]; omega))) only [↓bindO_some, ↓bindO_none, ↓joinO_inl, ↓joinO_inr, ↓joinO_none, ↓outO_some, ↓outO_none, ↓cond_true, ↓cond_false, ↓cond_and, ↓cond_or, ↓cond_not, ↓cond_ite, ↓if_pos, ↓if_neg, ↓if_true, ↓if_false, List.take_length, Nat.le_refl, Bool.not_true, Bool.not_false, h5, h6, decide_true, decide_false, if_pos, if_neg, wrap_i64', List.take_zero, List.nil_append, Int.toNat_natCast, List.length_append, List.length_cons, List.length_nil, hti, hdi]
              have hg : (l.take i ++ [(f + (i : Int), c, t + s)] ++ l.drop i)[i]? = some (f + (i : Int), c, t + s) := by
                rw [List.append_assoc, List.getElem?_append_right (by omega), hti, Nat.sub_self]; rfl
              rw [hg]
              first | exact ⟨_, rfl, rfl, (by first | exact Nat.zero_le _ | (simp only [List.length_append, List.length_cons, List.length_nil, List.length_take, List.length_drop]; omega))⟩ | exact ⟨_, rfl, (by first | exact Nat.zero_le _ | (simp only [List.length_append, List.length_cons, List.length_nil, List.length_take, List.length_drop]; omega))⟩
        · simp (disch := (first | omega | (simp only [List.length_append, List.length_cons, List.length_nil, List.nil_append, List.length_take, List.length_drop]; omega))) only [↓bindO_some, ↓bindO_none, ↓joinO_inl, ↓joinO_inr, ↓joinO_none, ↓outO_some, ↓outO_none, ↓cond_true, ↓cond_false, ↓cond_and, ↓cond_or, ↓cond_not, ↓cond_ite, ↓if_pos, ↓if_neg, ↓if_true, ↓if_false, List.take_length, Nat.le_refl, Bool.not_true, Bool.not_false, ↓mayP_b, ↓mayR_b, ↓withinP_b, ↓idR_b, h1, h2, h3, h4, and_self, and_false, ge_iff_le, decide_true, decide_false]
          first | exact ⟨_, rfl, rfl, (by first | exact Nat.zero_le _ | (simp only [List.length_append, List.length_cons, List.length_nil, List.length_take, List.length_drop]; omega))⟩ | exact ⟨_, rfl, (by first | exact Nat.zero_le _ | (simp only [List.length_append, List.length_cons, List.length_nil, List.length_take, List.length_drop]; omega))⟩
      · simp (disch := (first | omega | (simp only [List.length_append, List.length_cons, List.length_nil, List.nil_append, List.length_take, List.length_drop]; omega))) only [↓bindO_some, ↓bindO_none, ↓joinO_inl, ↓joinO_inr, ↓joinO_none, ↓outO_some, ↓outO_none, ↓cond_true, ↓cond_false, ↓cond_and, ↓cond_or, ↓cond_not, ↓cond_ite, ↓if_pos, ↓if_neg, ↓if_true, ↓if_false, List.take_length, Nat.le_refl, Bool.not_true, Bool.not_false, ↓mayP_b, ↓mayR_b, ↓withinP_b, ↓idR_b, h1, h2, h3, and_self, false_and, ge_iff_le, decide_true, decide_false]
        first | exact ⟨_, rfl, rfl, (by first | exact Nat.zero_le _ | (simp only [List.length_append, List.length_cons, List.length_nil, List.length_take, List.length_drop]; omega))⟩ | exact ⟨_, rfl, (by first | exact Nat.zero_le _ | (simp only [List.length_append, List.length_cons, List.length_nil, List.length_take, List.length_drop]; omega))⟩
    · simp (disch := (first | omega | (simp only [List.length_append, List.length_cons, List.length_nil, List.nil_append, List.length_take, List.length_drop]; omega))) only [↓bindO_some, ↓bindO_none, ↓joinO_inl, ↓joinO_inr, ↓joinO_none, ↓outO_some, ↓outO_none, ↓cond_true, ↓cond_false, ↓cond_and, ↓cond_or, ↓cond_not, ↓cond_ite, ↓if_pos, ↓if_neg, ↓if_true, ↓if_false, List.take_length, Nat.le_refl, Bool.not_true, Bool.not_false, ↓mayP_b, ↓mayR_b, ↓withinP_b, ↓idR_b, h1, h2, decide_true, decide_false]
      first | exact ⟨_, rfl, rfl, (by first | exact Nat.zero_le _ | (simp only [List.length_append, List.length_cons, List.length_nil, List.length_take, List.length_drop]; omega))⟩ | exact ⟨_, rfl, (by first | exact Nat.zero_le _ | (simp only [List.length_append, List.length_cons, List.length_nil, List.length_take, List.length_drop]; omega))⟩
  · simp (disch := (first | omega | (simp only [List.length_append, List.length_cons, List.length_nil, List.nil_append, List.length_take, List.length_drop]; omega))) only [↓bindO_some, ↓bindO_none, ↓joinO_inl, ↓joinO_inr, ↓joinO_none, ↓outO_some, ↓outO_none, ↓cond_true, ↓cond_false, ↓cond_and, ↓cond_or, ↓cond_not, ↓cond_ite, ↓if_pos, ↓if_neg, ↓if_true, ↓if_false, List.take_length, Nat.le_refl, Bool.not_true, Bool.not_false, ↓mayP_b, ↓mayR_b, h1, decide_false]
    first | exact ⟨_, rfl, rfl, (by first | exact Nat.zero_le _ | (simp only [List.length_append, List.length_cons, List.length_nil, List.length_take, List.length_drop]; omega))⟩ | exact ⟨_, rfl, (by first | exact Nat.zero_le _ | (simp only [List.length_append, List.length_cons, List.length_nil, List.length_take, List.length_drop]; omega))⟩
/-! ### Fetch -/
theorem fetch_found (a1 a2 a3 : Int) (l : List Pl) (n : Int) (hl : l.length ≤ 1000) {i : Nat} (hi : i < l.length) (x : Pl) (hx : l.getD i p0 = x) (hn : x.1 = n) : ffB a1 a2 a3 l n (i : Int) = some (.inr (.inr ((a1, (a2, (a3, l.take i ++ l.drop (i + 1)))), (x.2.1, 0)))) := by
  have hxb : ∀ {β : Type} (f : Pl → Option β), bindO l[Int.toNat (i : Int)]? f = f x := fun f => by rw [← hx]; exact get_bz p0 f (by omega)
  have hlay : layL (List.replicate l.length ((0 : Int), ((0 : Int), (0 : Int)))) 0 l = l := layL_all (by rw [List.length_replicate])
  have htk : List.take (l.length - (i + 1)) (List.drop (i + 1) l) = List.drop (i + 1) l := List.take_of_length_le (by rw [List.length_drop]; omega)
  have hdl : (List.drop (i + 1) l).length = l.length - (i + 1) := List.length_drop
  have h0 : ¬ (l.length : Int) = 0 := by omega
  have htl : List.take (l.length - 1) (List.take i l ++ (List.drop (i + 1) l ++ List.drop (l.length - 1) l)) = List.take i l ++ List.drop (i + 1) l := by
    rw [← List.append_assoc, List.take_append_of_le_length (by rw [List.length_append, List.length_take, List.length_drop]; omega), List.take_of_length_le (by rw [List.length_append, List.length_take, List.length_drop]; omega)]
  have hs : i + (l.length - (i + 1)) = l.length - 1 := by omega
  have hs2 : i + 1 + (l.length - (i + 1)) = l.length := by omega
  unfold ffB
  simp (disch := (first | omega | (simp only [List.length_append, List.length_cons, List.length_nil, List.nil_append, List.length_take, List.length_drop]; omega))) only [↓bindO_some, ↓bindO_none, ↓joinO_inl, ↓joinO_inr, ↓joinO_none, ↓outO_some, ↓outO_none, ↓cond_true, ↓cond_false, ↓cond_and, ↓cond_or, ↓cond_not, ↓cond_ite, ↓if_pos, ↓if_neg, ↓if_true, ↓if_false, List.take_length, Nat.le_refl, Bool.not_true, Bool.not_false, ↓hxb, hn, h0, decide_true, decide_false, if_pos, if_neg, wrap_i64', nots, Int.toNat_natCast, List.length_replicate, hlay, htk, hdl, hs, hs2, htl]
theorem fetchP_loop (a1 a2 a3 : Int) (l : List Pl) (n : Int) (hl : l.length ≤ 1000) :
    (∃ i, i < l.length ∧ (l.getD i p0).1 = n ∧ loopO (ffB a1 a2 a3 l n) 0 = some (.inr ((a1, (a2, (a3, l.take i ++ l.drop (i + 1)))), ((l.getD i p0).2.1, 0)))) ∨ ((∀ i, i < l.length → (l.getD i p0).1 ≠ n) ∧ loopO (ffB a1 a2 a3 l n) 0 = some (.inl ())) := by
  rcases loop_first (body := ffB a1 a2 a3 l n) l.length (fun k => (l.getD k p0).1 = n) (fun i => .inr ((a1, (a2, (a3, l.take i ++ l.drop (i + 1)))), ((l.getD i p0).2.1, 0))) (.inl ()) (fun k hk hb => by
      obtain ⟨x, hx, hxb⟩ := get_at p0 hk
      rw [hx] at hb
      unfold ffB
      simp (disch := (first | omega | (simp only [List.length_append, List.length_cons, List.length_nil, List.nil_append, List.length_take, List.length_drop]; omega))) only [↓bindO_some, ↓bindO_none, ↓joinO_inl, ↓joinO_inr, ↓joinO_none, ↓outO_some, ↓outO_none, ↓cond_true, ↓cond_false, ↓cond_and, ↓cond_or, ↓cond_not, ↓cond_ite, ↓if_pos, ↓if_neg, ↓if_true, ↓if_false, List.take_length, Nat.le_refl, Bool.not_true, Bool.not_false, if_pos, if_neg, ↓hxb, wrap_i64', nots, hb, decide_false])
    (fun k hk hb => fetch_found a1 a2 a3 l n hl hk _ rfl hb)
    (by unfold ffB; simp (disch := (first | omega | (simp only [List.length_append, List.length_cons, List.length_nil, List.nil_append, List.length_take, List.length_drop]; omega))) only [↓bindO_some, ↓bindO_none, ↓joinO_inl, ↓joinO_inr, ↓joinO_none, ↓outO_some, ↓outO_none, ↓cond_true, ↓cond_false, ↓cond_and, ↓cond_or, ↓cond_not, ↓cond_ite, ↓if_pos, ↓if_neg, ↓if_true, ↓if_false, List.take_length, Nat.le_refl, Bool.not_true, Bool.not_false, if_neg]) with ⟨k, k1, k2, _, e⟩ | ⟨h, e⟩
  · exact .inl ⟨k, k1, k2, e⟩
  · exact .inr ⟨h, e⟩
def keepN (n : Int) (l : List Pl) : List Pl := l.filter fun x => decide (x.1 ≠ n)
def callN (n : Int) (l : List Pl) : Int := l.foldl (fun c x => if x.1 = n then x.2.1 else c) 0
theorem eta3 (x : Pl) : (x.1, (x.2.1, x.2.2)) = x := rfl
theorem keep_le (n : Int) (l : List Pl) : (keepN n l).length ≤ l.length := List.length_filter_le _ _
theorem fetchR_loop (l : List Pl) (n : Int) (hl : l.length ≤ 1000) : loopO (frB l n) (0, ([], 0)) = some (.inl (keepN n l, callN n l)) := by
  refine loopO_from (fun i => ((i : Int), (keepN n (l.take i), callN n (l.take i)))) l.length rfl (fun i hi => ?_) ?_
  · obtain ⟨x, hx, hxb⟩ := get_at p0 hi
    have ht := take_snoc l p0 hi
    rw [hx] at ht
    have hk := keep_le n (l.take i)
    have hk2 : (l.take i).length ≤ 1000 := by rw [List.length_take]; omega
    have e1 : keepN n (l.take (i + 1)) = keepN n (l.take i) ++ (if x.1 = n then [] else [x]) := by
      rw [ht]
      unfold keepN
      rw [List.filter_append]
      by_cases h : x.1 = n <;> simp [h]
    have e2 : callN n (l.take (i + 1)) = if x.1 = n then x.2.1 else callN n (l.take i) := by
      rw [ht]
      unfold callN
      rw [List.foldl_append]
      rfl
    rw [e1, e2]
    unfold frB
    by_cases h : x.1 = n
    · simp (disch := (first | omega | (simp only [List.length_append, List.length_cons, List.length_nil, List.nil_append, List.length_take, List.length_drop]; omega))) only [↓bindO_some, ↓bindO_none, ↓joinO_inl, ↓joinO_inr, ↓joinO_none, ↓outO_some, ↓outO_none, ↓cond_true, ↓cond_false, ↓cond_and, ↓cond_or, ↓cond_not, ↓cond_ite, ↓if_pos, ↓if_neg, ↓if_true, ↓if_false, List.take_length, Nat.le_refl, Bool.not_true, Bool.not_false, if_pos, if_neg, ↓hxb, wrap_i64', nots, h, decide_true, List.append_nil]
    · simp (disch := (first | omega | (simp only [List.length_append, List.length_cons, List.length_nil, List.nil_append, List.length_take, List.length_drop]; omega))) only [↓bindO_some, ↓bindO_none, ↓joinO_inl, ↓joinO_inr, ↓joinO_none, ↓outO_some, ↓outO_none, ↓cond_true, ↓cond_false, ↓cond_and, ↓cond_or, ↓cond_not, ↓cond_ite, ↓if_pos, ↓if_neg, ↓if_true, ↓if_false, List.take_length, Nat.le_refl, Bool.not_true, Bool.not_false, if_pos, if_neg, ↓hxb, wrap_i64', nots, h, decide_false, eta3]
  · unfold frB
    simp (disch := (first | omega | (simp only [List.length_append, List.length_cons, List.length_nil, List.nil_append, List.length_take, List.length_drop]; omega))) only [↓bindO_some, ↓bindO_none, ↓joinO_inl, ↓joinO_inr, ↓joinO_none, ↓outO_some, ↓outO_none, ↓cond_true, ↓cond_false, ↓cond_and, ↓cond_or, ↓cond_not, ↓cond_ite, ↓if_pos, ↓if_neg, ↓if_true, ↓if_false, List.take_length, Nat.le_refl, Bool.not_true, Bool.not_false, if_neg, List.take_length]
theorem keep_all {n : Int} {l : List Pl} (h : ∀ x ∈ l, x.1 ≠ n) : keepN n l = l ∧ ∀ c, l.foldl (fun c (x : Pl) => if x.1 = n then x.2.1 else c) c = c := by
  induction l with
  | nil => exact ⟨rfl, fun _ => rfl⟩
  | cons x l ih =>
    obtain ⟨h1, h2⟩ := ih fun y hy => h y (List.mem_cons_of_mem _ hy)
    have hx := h x List.mem_cons_self
    unfold keepN at *
    refine ⟨by rw [List.filter_cons, if_pos (by simp [hx]), h1], fun c => by rw [List.foldl_cons, if_neg hx]; exact h2 c⟩
theorem mem_getD {α : Type} {l : List α} {d x : α} (h : x ∈ l) : ∃ i, i < l.length ∧ l.getD i d = x := by
  obtain ⟨i, hi, rfl⟩ := List.getElem_of_mem h
  exact ⟨i, hi, getD_get d hi⟩
theorem fetch_j (f m s : Int) (l : List Pl) (n : Int) (hl : l.length ≤ 1000) : ∃ r, queues_Fetch ((f, (m, (s, l))), n) = some r ∧ dialtoneref36_Fetch ((f, (m, (s, l))), n) = some r ∧ r.1.2.2.2.length ≤ 100000 := by
  rw [fetchP_eq, fetchR_eq]
  by_cases h1 : LOT f m s l
  · simp (disch := (first | omega | (simp only [List.length_append, List.length_cons, List.length_nil, List.nil_append, List.length_take, List.length_drop]; omega))) only [↓bindO_some, ↓bindO_none, ↓joinO_inl, ↓joinO_inr, ↓joinO_none, ↓outO_some, ↓outO_none, ↓cond_true, ↓cond_false, ↓cond_and, ↓cond_or, ↓cond_not, ↓cond_ite, ↓if_pos, ↓if_neg, ↓if_true, ↓if_false, List.take_length, Nat.le_refl, Bool.not_true, Bool.not_false, ↓mayP_b, ↓mayR_b, h1, decide_true, fetchR_loop]
    rcases fetchP_loop f m s l n hl with ⟨i, i1, i2, e⟩ | ⟨h, e⟩
    · have hsp : l = l.take i ++ (l.getD i p0 :: l.drop (i + 1)) := by rw [← drop_cons l p0 i1, List.take_append_drop]
      obtain ⟨x, hx⟩ : ∃ x, l.getD i p0 = x := ⟨_, rfl⟩
      have hA : ∀ y ∈ l.take i, y.1 ≠ n := fun y hy => by
        obtain ⟨j, j1, j2⟩ := mem_getD (d := p0) hy
        rw [List.length_take] at j1
        rw [getD_take l p0 (by omega)] at j2
        intro e
        have := lot_inj h1 (i := j) (j := i) (by omega) i1 (by unfold Nm; rw [j2, i2, e])
        omega
      have hB : ∀ y ∈ l.drop (i + 1), y.1 ≠ n := fun y hy => by
        obtain ⟨j, j1, j2⟩ := mem_getD (d := p0) hy
        rw [List.length_drop] at j1
        rw [List.getD_eq_getElem?_getD, List.getElem?_drop, ← List.getD_eq_getElem?_getD] at j2
        intro e
        have := lot_inj h1 (i := i + 1 + j) (j := i) (by omega) i1 (by unfold Nm; rw [j2, i2, e])
        omega
      have k1 : keepN n l = l.take i ++ l.drop (i + 1) := by
        have a := (keep_all hA).1
        have b := (keep_all hB).1
        rw [hx] at hsp i2
        conv => lhs; rw [hsp]
        unfold keepN at *
        rw [List.filter_append, List.filter_cons, if_neg (by simp [i2]), a, b]
      have k2 : callN n l = x.2.1 := by
        have a := (keep_all hA).2 0
        have b := (keep_all hB).2
        rw [hx] at hsp i2
        unfold callN
        conv => lhs; rw [hsp]
        rw [List.foldl_append, a, List.foldl_cons, if_pos i2, b]
      have h9 : ¬ x.2.1 = 0 := by
        have := (h1.2 i i1).2.2.2.1.1
        rw [hx] at this
        omega
      rw [hx] at e
      simp only [e, k1, k2, ↓bindO_some, ↓bindO_none, ↓joinO_inl, ↓joinO_inr, ↓joinO_none, ↓outO_some, ↓outO_none, ↓cond_true, ↓cond_false, ↓cond_and, ↓cond_or, ↓cond_not, ↓cond_ite, ↓if_pos, ↓if_neg, ↓if_true, ↓if_false, List.take_length, Nat.le_refl, Bool.not_true, Bool.not_false, h9, decide_false]
      first | exact ⟨_, rfl, rfl, (by first | exact Nat.zero_le _ | (simp only [List.length_append, List.length_cons, List.length_nil, List.length_take, List.length_drop]; omega))⟩ | exact ⟨_, rfl, (by first | exact Nat.zero_le _ | (simp only [List.length_append, List.length_cons, List.length_nil, List.length_take, List.length_drop]; omega))⟩
    · have hA : ∀ y ∈ l, y.1 ≠ n := fun y hy => by
        obtain ⟨j, j1, j2⟩ := mem_getD (d := p0) hy
        rw [← j2]; exact h j j1
      have k2 : callN n l = 0 := (keep_all hA).2 0
      simp only [e, k2, ↓bindO_some, ↓bindO_none, ↓joinO_inl, ↓joinO_inr, ↓joinO_none, ↓outO_some, ↓outO_none, ↓cond_true, ↓cond_false, ↓cond_and, ↓cond_or, ↓cond_not, ↓cond_ite, ↓if_pos, ↓if_neg, ↓if_true, ↓if_false, List.take_length, Nat.le_refl, Bool.not_true, Bool.not_false, decide_true]
      first | exact ⟨_, rfl, rfl, (by first | exact Nat.zero_le _ | (simp only [List.length_append, List.length_cons, List.length_nil, List.length_take, List.length_drop]; omega))⟩ | exact ⟨_, rfl, (by first | exact Nat.zero_le _ | (simp only [List.length_append, List.length_cons, List.length_nil, List.length_take, List.length_drop]; omega))⟩
  · simp (disch := (first | omega | (simp only [List.length_append, List.length_cons, List.length_nil, List.nil_append, List.length_take, List.length_drop]; omega))) only [↓bindO_some, ↓bindO_none, ↓joinO_inl, ↓joinO_inr, ↓joinO_none, ↓outO_some, ↓outO_none, ↓cond_true, ↓cond_false, ↓cond_and, ↓cond_or, ↓cond_not, ↓cond_ite, ↓if_pos, ↓if_neg, ↓if_true, ↓if_false, List.take_length, Nat.le_refl, Bool.not_true, Bool.not_false, ↓mayP_b, ↓mayR_b, h1, decide_false]
    first | exact ⟨_, rfl, rfl, (by first | exact Nat.zero_le _ | (simp only [List.length_append, List.length_cons, List.length_nil, List.length_take, List.length_drop]; omega))⟩ | exact ⟨_, rfl, (by first | exact Nat.zero_le _ | (simp only [List.length_append, List.length_cons, List.length_nil, List.length_take, List.length_drop]; omega))⟩
/-! ### Expire -/
def stays (t : Int) (l : List Pl) : List Pl := l.filter fun x => decide (¬ x.2.2 ≤ t)
def goes (t : Int) (l : List Pl) : List Int := (l.filter fun x => decide (x.2.2 ≤ t)).map fun x => x.2.1
theorem stays_snoc (t : Int) (l : List Pl) (x : Pl) : stays t (l ++ [x]) = stays t l ++ (if x.2.2 ≤ t then [] else [x]) ∧ goes t (l ++ [x]) = goes t l ++ (if x.2.2 ≤ t then [x.2.1] else []) := by
  unfold stays goes
  rw [List.filter_append, List.filter_append, List.map_append]
  by_cases h : x.2.2 ≤ t
  · simp [h]
  · have h' : t < x.2.2 := by omega
    simp [h, h']
theorem exp_le (t : Int) (l : List Pl) : (stays t l).length ≤ l.length ∧ (goes t l).length ≤ l.length := by
  unfold stays goes
  exact ⟨List.length_filter_le _ _, by rw [List.length_map]; exact List.length_filter_le _ _⟩
theorem exp_loop (l : List Pl) (t : Int) (hl : l.length ≤ 1000) : loopO (epB l t) (0, ([], [])) = some (.inl (stays t l, goes t l)) ∧ loopO (erB l t) (0, ([], [])) = some (.inl (stays t l, goes t l)) := by
  have key : ∀ i, i < l.length → ∃ x, (∀ {β : Type} (f : Pl → Option β), bindO l[Int.toNat (i : Int)]? f = f x) ∧ stays t (l.take (i + 1)) = stays t (l.take i) ++ (if x.2.2 ≤ t then [] else [x]) ∧ goes t (l.take (i + 1)) = goes t (l.take i) ++ (if x.2.2 ≤ t then [x.2.1] else []) ∧ (stays t (l.take i)).length ≤ 1000 ∧ (goes t (l.take i)).length ≤ 1000 := fun i hi => by
    obtain ⟨x, hx, hxb⟩ := get_at p0 hi
    have ht := take_snoc l p0 hi
    rw [hx] at ht
    have hk := exp_le t (l.take i)
    have hk2 : (l.take i).length ≤ 1000 := by rw [List.length_take]; omega
    have := stays_snoc t (l.take i) x
    rw [ht]
    exact ⟨x, hxb, this.1, this.2, by omega, by omega⟩
  constructor
  · refine loopO_from (fun i => ((i : Int), (stays t (l.take i), goes t (l.take i)))) l.length rfl (fun i hi => ?_) ?_
    · obtain ⟨x, hxb, e1, e2, b1, b2⟩ := key i hi
      rw [e1, e2]
      unfold epB
      by_cases h : x.2.2 ≤ t
      · simp (disch := (first | omega | (simp only [List.length_append, List.length_cons, List.length_nil, List.nil_append, List.length_take, List.length_drop]; omega))) only [↓bindO_some, ↓bindO_none, ↓joinO_inl, ↓joinO_inr, ↓joinO_none, ↓outO_some, ↓outO_none, ↓cond_true, ↓cond_false, ↓cond_and, ↓cond_or, ↓cond_not, ↓cond_ite, ↓if_pos, ↓if_neg, ↓if_true, ↓if_false, List.take_length, Nat.le_refl, Bool.not_true, Bool.not_false, if_pos, if_neg, ↓hxb, wrap_i64', nots, h, decide_true, Bool.and_self, List.append_nil]
      · simp (disch := (first | omega | (simp only [List.length_append, List.length_cons, List.length_nil, List.nil_append, List.length_take, List.length_drop]; omega))) only [↓bindO_some, ↓bindO_none, ↓joinO_inl, ↓joinO_inr, ↓joinO_none, ↓outO_some, ↓outO_none, ↓cond_true, ↓cond_false, ↓cond_and, ↓cond_or, ↓cond_not, ↓cond_ite, ↓if_pos, ↓if_neg, ↓if_true, ↓if_false, List.take_length, Nat.le_refl, Bool.not_true, Bool.not_false, if_pos, if_neg, ↓hxb, wrap_i64', nots, h, decide_true, decide_false, Bool.and_self, List.append_nil, eta3]
    · unfold epB
      simp (disch := (first | omega | (simp only [List.length_append, List.length_cons, List.length_nil, List.nil_append, List.length_take, List.length_drop]; omega))) only [↓bindO_some, ↓bindO_none, ↓joinO_inl, ↓joinO_inr, ↓joinO_none, ↓outO_some, ↓outO_none, ↓cond_true, ↓cond_false, ↓cond_and, ↓cond_or, ↓cond_not, ↓cond_ite, ↓if_pos, ↓if_neg, ↓if_true, ↓if_false, List.take_length, Nat.le_refl, Bool.not_true, Bool.not_false, if_neg, List.take_length, decide_true, Bool.and_self]
  · refine loopO_from (fun i => ((i : Int), (stays t (l.take i), goes t (l.take i)))) l.length rfl (fun i hi => ?_) ?_
    · obtain ⟨x, hxb, e1, e2, b1, b2⟩ := key i hi
      rw [e1, e2]
      unfold erB
      by_cases h : x.2.2 ≤ t
      · simp (disch := (first | omega | (simp only [List.length_append, List.length_cons, List.length_nil, List.nil_append, List.length_take, List.length_drop]; omega))) only [↓bindO_some, ↓bindO_none, ↓joinO_inl, ↓joinO_inr, ↓joinO_none, ↓outO_some, ↓outO_none, ↓cond_true, ↓cond_false, ↓cond_and, ↓cond_or, ↓cond_not, ↓cond_ite, ↓if_pos, ↓if_neg, ↓if_true, ↓if_false, List.take_length, Nat.le_refl, Bool.not_true, Bool.not_false, if_pos, if_neg, ↓hxb, wrap_i64', nots, h, decide_true, Bool.and_self, List.append_nil]
      · simp (disch := (first | omega | (simp only [List.length_append, List.length_cons, List.length_nil, List.nil_append, List.length_take, List.length_drop]; omega))) only [↓bindO_some, ↓bindO_none, ↓joinO_inl, ↓joinO_inr, ↓joinO_none, ↓outO_some, ↓outO_none, ↓cond_true, ↓cond_false, ↓cond_and, ↓cond_or, ↓cond_not, ↓cond_ite, ↓if_pos, ↓if_neg, ↓if_true, ↓if_false, List.take_length, Nat.le_refl, Bool.not_true, Bool.not_false, if_pos, if_neg, ↓hxb, wrap_i64', nots, h, decide_true, decide_false, Bool.and_self, List.append_nil, eta3]
    · unfold erB
      simp (disch := (first | omega | (simp only [List.length_append, List.length_cons, List.length_nil, List.nil_append, List.length_take, List.length_drop]; omega))) only [↓bindO_some, ↓bindO_none, ↓joinO_inl, ↓joinO_inr, ↓joinO_none, ↓outO_some, ↓outO_none, ↓cond_true, ↓cond_false, ↓cond_and, ↓cond_or, ↓cond_not, ↓cond_ite, ↓if_pos, ↓if_neg, ↓if_true, ↓if_false, List.take_length, Nat.le_refl, Bool.not_true, Bool.not_false, if_neg, List.take_length, decide_true, Bool.and_self]
theorem exp_j (f m s : Int) (l : List Pl) (t : Int) (hl : l.length ≤ 1000) : ∃ r, queues_Expire ((f, (m, (s, l))), t) = some r ∧ dialtoneref36_Expire ((f, (m, (s, l))), t) = some r ∧ r.2.length ≤ 1000 ∧ r.1.2.2.2.length ≤ 100000 := by
  rw [expP_eq, expR_eq]
  obtain ⟨e1, e2⟩ := exp_loop l t hl
  by_cases h1 : LOT f m s l
  · simp (disch := (first | omega | (simp only [List.length_append, List.length_cons, List.length_nil, List.nil_append, List.length_take, List.length_drop]; omega))) only [↓bindO_some, ↓bindO_none, ↓joinO_inl, ↓joinO_inr, ↓joinO_none, ↓outO_some, ↓outO_none, ↓cond_true, ↓cond_false, ↓cond_and, ↓cond_or, ↓cond_not, ↓cond_ite, ↓if_pos, ↓if_neg, ↓if_true, ↓if_false, List.take_length, Nat.le_refl, Bool.not_true, Bool.not_false, ↓mayP_b, ↓mayR_b, h1, decide_true, e1, e2, Bool.and_self]
    exact ⟨_, rfl, rfl, by have := (exp_le t l).2; show (goes t l).length ≤ 1000; omega, by have := (exp_le t l).1; show (stays t l).length ≤ 100000; omega⟩
  · simp (disch := (first | omega | (simp only [List.length_append, List.length_cons, List.length_nil, List.nil_append, List.length_take, List.length_drop]; omega))) only [↓bindO_some, ↓bindO_none, ↓joinO_inl, ↓joinO_inr, ↓joinO_none, ↓outO_some, ↓outO_none, ↓cond_true, ↓cond_false, ↓cond_and, ↓cond_or, ↓cond_not, ↓cond_ite, ↓if_pos, ↓if_neg, ↓if_true, ↓if_false, List.take_length, Nat.le_refl, Bool.not_true, Bool.not_false, ↓mayP_b, ↓mayR_b, h1, decide_false]
    exact ⟨_, rfl, rfl, by show ([] : List Int).length ≤ 1000; simp, by show ([] : List Pl).length ≤ 100000; simp⟩
/-! ### the same -/
theorem same_j (x : Lt) (hl : x.2.2.2.length ≤ 100000) : dialtoneref36_SameLot (x, x) = some true := by
  obtain ⟨a, b, c, l⟩ := x
  have hl : l.length ≤ 100000 := hl
  rw [sameL_eq]
  have e : loopO (slB l l) 0 = some (.inl ()) := by
    refine loopO_from (fun i => (i : Int)) l.length rfl (fun i hi => ?_) ?_
    · obtain ⟨x, hx, hxb⟩ := get_at p0 hi
      unfold slB
      simp (disch := (first | omega | (simp only [List.length_append, List.length_cons, List.length_nil, List.nil_append, List.length_take, List.length_drop]; omega))) only [↓bindO_some, ↓bindO_none, ↓joinO_inl, ↓joinO_inr, ↓joinO_none, ↓outO_some, ↓outO_none, ↓cond_true, ↓cond_false, ↓cond_and, ↓cond_or, ↓cond_not, ↓cond_ite, ↓if_pos, ↓if_neg, ↓if_true, ↓if_false, List.take_length, Nat.le_refl, Bool.not_true, Bool.not_false, if_pos, if_neg, ↓hxb, wrap_i64', nots, decide_true, Bool.and_self]
    · unfold slB
      simp (disch := (first | omega | (simp only [List.length_append, List.length_cons, List.length_nil, List.nil_append, List.length_take, List.length_drop]; omega))) only [↓bindO_some, ↓bindO_none, ↓joinO_inl, ↓joinO_inr, ↓joinO_none, ↓outO_some, ↓outO_none, ↓cond_true, ↓cond_false, ↓cond_and, ↓cond_or, ↓cond_not, ↓cond_ite, ↓if_pos, ↓if_neg, ↓if_true, ↓if_false, List.take_length, Nat.le_refl, Bool.not_true, Bool.not_false, if_neg]
  simp (disch := (first | omega | (simp only [List.length_append, List.length_cons, List.length_nil, List.nil_append, List.length_take, List.length_drop]; omega))) only [↓bindO_some, ↓bindO_none, ↓joinO_inl, ↓joinO_inr, ↓joinO_none, ↓outO_some, ↓outO_none, ↓cond_true, ↓cond_false, ↓cond_and, ↓cond_or, ↓cond_not, ↓cond_ite, ↓if_pos, ↓if_neg, ↓if_true, ↓if_false, List.take_length, Nat.le_refl, Bool.not_true, Bool.not_false, if_neg, ne_eq, not_true_eq_false, decide_false, e]
theorem lot_j (f m s : Int) (l : List Pl) (hl : l.length ≤ 9223372036854775807) : dialtonelaw36_lot (f, (m, (s, l))) = some (f, (m, (s, l.take 120))) := by
  have hm : minA (l.length : Int) 120 = ((min l.length 120 : Nat) : Int) := by unfold minA; omega
  have hn : (l.take (min l.length 120)) = l.take 120 := by
    rcases Nat.le_total l.length 120 with g | g
    · rw [Nat.min_eq_left g, List.take_length, List.take_of_length_le g]
    · rw [Nat.min_eq_right g]
  have hk : (l.take 120).length ≤ 120 := by rw [List.length_take]; omega
  unfold dialtonelaw36_lot
  simp (disch := (first | omega | (simp only [List.length_append, List.length_cons, List.length_nil, List.nil_append, List.length_take, List.length_drop]; omega))) only [↓bindO_some, ↓bindO_none, ↓joinO_inl, ↓joinO_inr, ↓joinO_none, ↓outO_some, ↓outO_none, ↓cond_true, ↓cond_false, ↓cond_and, ↓cond_or, ↓cond_not, ↓cond_ite, ↓if_pos, ↓if_neg, ↓if_true, ↓if_false, List.take_length, Nat.le_refl, Bool.not_true, Bool.not_false, hm, if_pos, Int.toNat_natCast, hn]
end Go.Proofs.Ytkmfgldoljegoaa
