import Derived.Test.YtheicchelhjcjaaJ5p
set_option linter.unusedVariables false
set_option linter.unusedSimpArgs false
set_option maxRecDepth 100000
namespace Go.Proofs.Ytheicchelhjcjaa
open Go.RowKit
theorem pstep_eq (a1 : List Br) (a2 : Int) (a3 a4 a5 : Bool) (a6 a7 a8 : Int) : fork_Step ((a1, (a2, (a3, (a4, a5)))), (a6, (a7, a8))) =

  bindO (fork_check ((a1, (a2, (a3, (a4, a5)))), (a6, (a7, a8)))) fun x9 =>
  bif (decide (x9 ≠ (0 : Int))) then
   some ((([] : List ((List UInt8) × (Int × (Int × Int)))), ((0 : Int), (Bool.false, (Bool.false, Bool.false)))), (([] : List (Int × (Int × Int))), x9))
  else
   bindO (cloneG a1) fun x10 =>
   bif (decide (a6 = (1 : Int))) then
    joinO (bif (decide (((0 : Int) ≤ a7) ∧ (a7 < (((List.length x10) : Nat) : Int)))) then 
      bindO x10[(Int.toNat a7)]? fun x11 =>
      bif (decide (x11.2.2.1 = (1 : Int))) then
       bindO x10[(Int.toNat a7)]? fun x12 =>
       bindO (List.set x10 (Int.toNat a7) (x12.1, (x12.2.1, ((2 : Int), x12.2.2.2))))[(Int.toNat a7)]? fun x13 =>
       bif (decide (x13.2.2.1 = (2 : Int))) then
        bif (decide (a8 > (100 : Int))) then
         bindO (some (((3 : Int), (a7, a8)) :: ([] : List (Int × (Int × Int))))) fun x14 =>
         bif ((decide ((List.length x10) ≤ (List.length (List.set x10 (Int.toNat a7) (x12.1, (x12.2.1, ((2 : Int), x12.2.2.2))))))) && (decide ((List.length x14) ≤ (List.length x14)))) then 
          some (Sum.inl ((List.take (List.length x10) (List.set x10 (Int.toNat a7) (x12.1, (x12.2.1, ((2 : Int), x12.2.2.2))))), (a2, (a3, (a4, (a5, (List.take (List.length x14) x14)))))))
         else none
        else
         bif (decide ((List.length x10) ≤ (List.length (List.set x10 (Int.toNat a7) (x12.1, (x12.2.1, ((2 : Int), x12.2.2.2))))))) then 
          some (Sum.inl ((List.take (List.length x10) (List.set x10 (Int.toNat a7) (x12.1, (x12.2.1, ((2 : Int), x12.2.2.2))))), (a2, (a3, (a4, (a5, ([] : List (Int × (Int × Int)))))))))
         else none
       else
        bif (decide ((List.length x10) ≤ (List.length (List.set x10 (Int.toNat a7) (x12.1, (x12.2.1, ((2 : Int), x12.2.2.2))))))) then 
         some (Sum.inl ((List.take (List.length x10) (List.set x10 (Int.toNat a7) (x12.1, (x12.2.1, ((2 : Int), x12.2.2.2))))), (a2, (a3, (a4, (a5, ([] : List (Int × (Int × Int)))))))))
        else none
      else
       bif (decide (x11.2.2.1 = (3 : Int))) then
        bindO x10[(Int.toNat a7)]? fun x15 =>
        bindO (some (((2 : Int), (a7, (0 : Int))) :: ([] : List (Int × (Int × Int))))) fun x16 =>
        bindO (List.set x10 (Int.toNat a7) (x15.1, (x15.2.1, ((4 : Int), x15.2.2.2))))[(Int.toNat a7)]? fun x17 =>
        bif (decide (x17.2.2.1 = (2 : Int))) then
         bif (decide (a8 > (100 : Int))) then
          bif (decide ((List.length x16) ≤ (List.length x16))) then 
           bif (decide (((List.length ((List.take (List.length x16) x16) ++ (((3 : Int), (a7, a8)) :: ([] : List (Int × (Int × Int)))))) * 24) ≤ 140737488355328)) then 
            bindO (some ((List.take (List.length x16) x16) ++ (((3 : Int), (a7, a8)) :: ([] : List (Int × (Int × Int)))))) fun x18 =>
            bif ((decide ((List.length x10) ≤ (List.length (List.set x10 (Int.toNat a7) (x15.1, (x15.2.1, ((4 : Int), x15.2.2.2))))))) && (decide ((List.length x18) ≤ (List.length x18)))) then 
             some (Sum.inl ((List.take (List.length x10) (List.set x10 (Int.toNat a7) (x15.1, (x15.2.1, ((4 : Int), x15.2.2.2))))), (a2, (a3, (a4, (a5, (List.take (List.length x18) x18)))))))
            else none
           else none
          else none
         else
          bif ((decide ((List.length x10) ≤ (List.length (List.set x10 (Int.toNat a7) (x15.1, (x15.2.1, ((4 : Int), x15.2.2.2))))))) && (decide ((List.length x16) ≤ (List.length x16)))) then 
           some (Sum.inl ((List.take (List.length x10) (List.set x10 (Int.toNat a7) (x15.1, (x15.2.1, ((4 : Int), x15.2.2.2))))), (a2, (a3, (a4, (a5, (List.take (List.length x16) x16)))))))
          else none
        else
         bif ((decide ((List.length x10) ≤ (List.length (List.set x10 (Int.toNat a7) (x15.1, (x15.2.1, ((4 : Int), x15.2.2.2))))))) && (decide ((List.length x16) ≤ (List.length x16)))) then 
          some (Sum.inl ((List.take (List.length x10) (List.set x10 (Int.toNat a7) (x15.1, (x15.2.1, ((4 : Int), x15.2.2.2))))), (a2, (a3, (a4, (a5, (List.take (List.length x16) x16)))))))
         else none
       else
        bindO x10[(Int.toNat a7)]? fun x19 =>
        bif (decide (x19.2.2.1 = (2 : Int))) then
         bif (decide (a8 > (100 : Int))) then
          bindO (some (((3 : Int), (a7, a8)) :: ([] : List (Int × (Int × Int))))) fun x20 =>
          bif ((decide ((List.length x10) ≤ (List.length x10))) && (decide ((List.length x20) ≤ (List.length x20)))) then 
           some (Sum.inl ((List.take (List.length x10) x10), (a2, (a3, (a4, (a5, (List.take (List.length x20) x20)))))))
          else none
         else
          bif (decide ((List.length x10) ≤ (List.length x10))) then 
           some (Sum.inl ((List.take (List.length x10) x10), (a2, (a3, (a4, (a5, ([] : List (Int × (Int × Int)))))))))
          else none
        else
         bif (decide ((List.length x10) ≤ (List.length x10))) then 
          some (Sum.inl ((List.take (List.length x10) x10), (a2, (a3, (a4, (a5, ([] : List (Int × (Int × Int)))))))))
         else none
     else none) fun (v21, (v22, (v23, (v24, (v25, v26))))) =>
    bif ((decide ((List.length v21) ≤ (List.length v21))) && (decide ((List.length v26) ≤ (List.length v26)))) then 
     some (((List.take (List.length v21) v21), (v22, (v23, (v24, v25)))), ((List.take (List.length v26) v26), (0 : Int)))
    else none
   else
    bif (decide (a6 = (2 : Int))) then
     joinO (bif (decide (((0 : Int) ≤ a7) ∧ (a7 < (((List.length x10) : Nat) : Int)))) then 
       bindO x10[(Int.toNat a7)]? fun x27 =>
       bif (decide (((0 : Int) ≤ a7) ∧ (a7 < (((List.length x10) : Nat) : Int)))) then 
        bindO (List.set x10 (Int.toNat a7) (x27.1, (x27.2.1, ((5 : Int), x27.2.2.2))))[(Int.toNat a7)]? fun x28 =>
        joinO (joinO (bif (decide (a8 < (300 : Int))) then
           bif (!a5) then
            some (Sum.inl (!a3))
           else
            some (Sum.inl Bool.false)
          else
           some (Sum.inl Bool.false)) fun v29 =>
         bif v29 then
          bindO (some (((4 : Int), (a7, a8)) :: ([] : List (Int × (Int × Int))))) fun x30 =>
          joinO (bif ((decide ((List.length x10) ≤ (List.length (List.set (List.set x10 (Int.toNat a7) (x27.1, (x27.2.1, ((5 : Int), x27.2.2.2)))) (Int.toNat a7) (x28.1, (x28.2.1, (x28.2.2.1, a8))))))) && (decide ((List.length x30) ≤ (List.length x30)))) then 
            loopO (psB x10) ((0 : Int), ((List.take (List.length x10) (List.set (List.set x10 (Int.toNat a7) (x27.1, (x27.2.1, ((5 : Int), x27.2.2.2)))) (Int.toNat a7) (x28.1, (x28.2.1, (x28.2.2.1, a8))))), (a7, (a3, (Bool.true, (Bool.true, (List.take (List.length x30) x30)))))))
           else none) fun (v45, (v46, (v47, (v48, (v49, v50))))) =>
          joinO (loopO (skB v45) ((0 : Int), v45)) fun v57 =>
          bif ((decide ((List.length v45) ≤ (List.length v57))) && (decide ((List.length v50) ≤ (List.length v50)))) then 
           some (Sum.inl ((List.take (List.length v45) v57), (v46, (v47, (v48, (v49, (List.take (List.length v50) v50)))))))
          else none
         else
          bif (decide (a8 < (300 : Int))) then
           bindO (some (((5 : Int), (a7, a8)) :: ([] : List (Int × (Int × Int))))) fun x58 =>
           bif ((decide ((List.length x10) ≤ (List.length (List.set (List.set x10 (Int.toNat a7) (x27.1, (x27.2.1, ((5 : Int), x27.2.2.2)))) (Int.toNat a7) (x28.1, (x28.2.1, (x28.2.2.1, a8))))))) && (decide ((List.length x58) ≤ (List.length x58)))) then 
            some (Sum.inl ((List.take (List.length x10) (List.set (List.set x10 (Int.toNat a7) (x27.1, (x27.2.1, ((5 : Int), x27.2.2.2)))) (Int.toNat a7) (x28.1, (x28.2.1, (x28.2.2.1, a8))))), (a2, (a3, (a4, (a5, (List.take (List.length x58) x58)))))))
           else none
          else
           bif (decide (a8 ≥ (600 : Int))) then
            joinO (bif (decide ((List.length x10) ≤ (List.length (List.set (List.set x10 (Int.toNat a7) (x27.1, (x27.2.1, ((5 : Int), x27.2.2.2)))) (Int.toNat a7) (x28.1, (x28.2.1, (x28.2.2.1, a8))))))) then 
              loopO (psB x10) ((0 : Int), ((List.take (List.length x10) (List.set (List.set x10 (Int.toNat a7) (x27.1, (x27.2.1, ((5 : Int), x27.2.2.2)))) (Int.toNat a7) (x28.1, (x28.2.1, (x28.2.2.1, a8))))), (a2, (a3, (Bool.true, (a5, ([] : List (Int × (Int × Int)))))))))
             else none) fun (v73, (v74, (v75, (v76, (v77, v78))))) =>
            bif ((decide ((List.length v73) ≤ (List.length v73))) && (decide ((List.length v78) ≤ (List.length v78)))) then 
             some (Sum.inl ((List.take (List.length v73) v73), (v74, (v75, (v76, (v77, (List.take (List.length v78) v78)))))))
            else none
           else
            bif (decide ((List.length x10) ≤ (List.length (List.set (List.set x10 (Int.toNat a7) (x27.1, (x27.2.1, ((5 : Int), x27.2.2.2)))) (Int.toNat a7) (x28.1, (x28.2.1, (x28.2.2.1, a8))))))) then 
             some (Sum.inl ((List.take (List.length x10) (List.set (List.set x10 (Int.toNat a7) (x27.1, (x27.2.1, ((5 : Int), x27.2.2.2)))) (Int.toNat a7) (x28.1, (x28.2.1, (x28.2.2.1, a8))))), (a2, (a3, (a4, (a5, ([] : List (Int × (Int × Int)))))))))
            else none) fun (v79, (v80, (v81, (v82, (v83, v84))))) =>
        joinO (goP v79 v80 v81 v82 v83 v84) fun (v126, (v127, (v128, (v129, (v130, v131))))) =>
        bif ((decide ((List.length v126) ≤ (List.length v126))) && (decide ((List.length v131) ≤ (List.length v131)))) then 
         some (Sum.inl ((List.take (List.length v126) v126), (v127, (v128, (v129, (v130, (List.take (List.length v131) v131)))))))
        else none
       else none
      else none) fun (v132, (v133, (v134, (v135, (v136, v137))))) =>
     bif ((decide ((List.length v132) ≤ (List.length v132))) && (decide ((List.length v137) ≤ (List.length v137)))) then 
      some (((List.take (List.length v132) v132), (v133, (v134, (v135, v136)))), ((List.take (List.length v137) v137), (0 : Int)))
     else none
    else
     bif (decide (a6 = (3 : Int))) then
      joinO (bif (decide (((0 : Int) ≤ a7) ∧ (a7 < (((List.length x10) : Nat) : Int)))) then 
        bindO x10[(Int.toNat a7)]? fun x138 =>
        bif (decide (((0 : Int) ≤ a7) ∧ (a7 < (((List.length x10) : Nat) : Int)))) then 
         bindO (List.set x10 (Int.toNat a7) (x138.1, (x138.2.1, ((5 : Int), x138.2.2.2))))[(Int.toNat a7)]? fun x139 =>
         joinO (joinO (some (Sum.inl Bool.false)) fun v140 =>
          bif v140 then
           bindO (some (((4 : Int), (a7, (408 : Int))) :: ([] : List (Int × (Int × Int))))) fun x141 =>
           joinO (bif ((decide ((List.length x10) ≤ (List.length (List.set (List.set x10 (Int.toNat a7) (x138.1, (x138.2.1, ((5 : Int), x138.2.2.2)))) (Int.toNat a7) (x139.1, (x139.2.1, (x139.2.2.1, (408 : Int)))))))) && (decide ((List.length x141) ≤ (List.length x141)))) then 
             loopO (psB x10) ((0 : Int), ((List.take (List.length x10) (List.set (List.set x10 (Int.toNat a7) (x138.1, (x138.2.1, ((5 : Int), x138.2.2.2)))) (Int.toNat a7) (x139.1, (x139.2.1, (x139.2.2.1, (408 : Int)))))), (a7, (a3, (Bool.true, (Bool.true, (List.take (List.length x141) x141)))))))
            else none) fun (v156, (v157, (v158, (v159, (v160, v161))))) =>
           joinO (loopO (skB v156) ((0 : Int), v156)) fun v168 =>
           bif ((decide ((List.length v156) ≤ (List.length v168))) && (decide ((List.length v161) ≤ (List.length v161)))) then 
            some (Sum.inl ((List.take (List.length v156) v168), (v157, (v158, (v159, (v160, (List.take (List.length v161) v161)))))))
           else none
          else
           bif (decide ((List.length x10) ≤ (List.length (List.set (List.set x10 (Int.toNat a7) (x138.1, (x138.2.1, ((5 : Int), x138.2.2.2)))) (Int.toNat a7) (x139.1, (x139.2.1, (x139.2.2.1, (408 : Int)))))))) then 
            some (Sum.inl ((List.take (List.length x10) (List.set (List.set x10 (Int.toNat a7) (x138.1, (x138.2.1, ((5 : Int), x138.2.2.2)))) (Int.toNat a7) (x139.1, (x139.2.1, (x139.2.2.1, (408 : Int)))))), (a2, (a3, (a4, (a5, ([] : List (Int × (Int × Int)))))))))
           else none) fun (v169, (v170, (v171, (v172, (v173, v174))))) =>
         joinO (goP v169 v170 v171 v172 v173 v174) fun (v216, (v217, (v218, (v219, (v220, v221))))) =>
         bif ((decide ((List.length v216) ≤ (List.length v216))) && (decide ((List.length v221) ≤ (List.length v221)))) then 
          some (Sum.inl ((List.take (List.length v216) v216), (v217, (v218, (v219, (v220, (List.take (List.length v221) v221)))))))
         else none
        else none
       else none) fun (v222, (v223, (v224, (v225, (v226, v227))))) =>
      bif ((decide ((List.length v222) ≤ (List.length v222))) && (decide ((List.length v227) ≤ (List.length v227)))) then 
       some (((List.take (List.length v222) v222), (v223, (v224, (v225, v226)))), ((List.take (List.length v227) v227), (0 : Int)))
      else none
     else
      bif (decide (a6 = (4 : Int))) then
       joinO (bif (decide ((List.length x10) ≤ (List.length x10))) then 
         loopO (psB x10) ((0 : Int), ((List.take (List.length x10) x10), (a2, (Bool.true, (Bool.true, (a5, ([] : List (Int × (Int × Int)))))))))
        else none) fun (v242, (v243, (v244, (v245, (v246, v247))))) =>
       bif ((decide ((List.length v242) ≤ (List.length v242))) && (decide ((List.length v247) ≤ (List.length v247)))) then 
        some (((List.take (List.length v242) v242), (v243, (v244, (v245, v246)))), ((List.take (List.length v247) v247), (0 : Int)))
       else none
      else
       bif (decide ((List.length x10) ≤ (List.length x10))) then 
        some (((List.take (List.length x10) x10), (a2, (a3, (a4, a5)))), (([] : List (Int × (Int × Int))), (0 : Int)))
       else none := rfl
theorem rstep_eq (a1 : List Br) (a2 : Int) (a3 a4 a5 : Bool) (a6 a7 a8 : Int) : dialtoneref23_Step ((a1, (a2, (a3, (a4, a5)))), (a6, (a7, a8))) =

  bindO (dialtoneref23_wrong ((a1, (a2, (a3, (a4, a5)))), (a6, (a7, a8)))) fun x9 =>
  bif (decide (x9 ≠ (0 : Int))) then
   some ((([] : List ((List UInt8) × (Int × (Int × Int)))), ((0 : Int), (Bool.false, (Bool.false, Bool.false)))), (([] : List (Int × (Int × Int))), x9))
  else
   bif (decide (((List.length a1) * 40) ≤ 140737488355328)) then 
    bif (decide (a6 = (1 : Int))) then
     joinO (bif (decide (((0 : Int) ≤ a7) ∧ (a7 < (((List.length a1) : Nat) : Int)))) then 
       bindO a1[(Int.toNat a7)]? fun x11 =>
       bif (decide (x11.2.2.1 = (3 : Int))) then
        bindO a1[(Int.toNat a7)]? fun x12 =>
        bif ((decide ((List.length a1) ≤ (List.length (List.set a1 (Int.toNat a7) (x12.1, (x12.2.1, ((4 : Int), x12.2.2.2))))))) && Bool.true) then 
         some (Sum.inl (((List.take (List.length a1) (List.set a1 (Int.toNat a7) (x12.1, (x12.2.1, ((4 : Int), x12.2.2.2))))), (a2, (a3, (a4, a5)))), (((2 : Int), (a7, (0 : Int))) :: ([] : List (Int × (Int × Int))))))
        else none
       else
        joinO (bindO a1[(Int.toNat a7)]? fun x13 =>
         bif (decide (x13.2.2.1 = (1 : Int))) then
          bindO a1[(Int.toNat a7)]? fun x14 =>
          some (Sum.inl (List.set a1 (Int.toNat a7) (x14.1, (x14.2.1, ((2 : Int), x14.2.2.2)))))
         else
          some (Sum.inl a1)) fun v15 =>
        bindO v15[(Int.toNat a7)]? fun x16 =>
        bif (decide (x16.2.2.1 = (2 : Int))) then
         bif (decide (a8 > (100 : Int))) then
          bif ((decide ((List.length a1) ≤ (List.length v15))) && Bool.true) then 
           some (Sum.inl (((List.take (List.length a1) v15), (a2, (a3, (a4, a5)))), (((3 : Int), (a7, a8)) :: ([] : List (Int × (Int × Int))))))
          else none
         else
          bif (decide ((List.length a1) ≤ (List.length v15))) then 
           some (Sum.inl (((List.take (List.length a1) v15), (a2, (a3, (a4, a5)))), ([] : List (Int × (Int × Int)))))
          else none
        else
         bif (decide ((List.length a1) ≤ (List.length v15))) then 
          some (Sum.inl (((List.take (List.length a1) v15), (a2, (a3, (a4, a5)))), ([] : List (Int × (Int × Int)))))
         else none
      else none) fun ((v17, (v18, (v19, (v20, v21)))), v22) =>
     bif (decide ((List.length v17) ≤ (List.length v17))) then 
      some (((List.take (List.length v17) v17), (v18, (v19, (v20, v21)))), (v22, (0 : Int)))
     else none
    else
     bif (decide (a6 = (2 : Int))) then
      joinO (bif (decide (((0 : Int) ≤ a7) ∧ (a7 < (((List.length a1) : Nat) : Int)))) then 
        bindO a1[(Int.toNat a7)]? fun x23 =>
        bif (decide (((0 : Int) ≤ a7) ∧ (a7 < (((List.length a1) : Nat) : Int)))) then 
         bindO (List.set a1 (Int.toNat a7) (x23.1, (x23.2.1, ((5 : Int), x23.2.2.2))))[(Int.toNat a7)]? fun x24 =>
         joinO (joinO (bif (decide (a8 < (300 : Int))) then
            bif (!a5) then
             some (Sum.inl (!a3))
            else
             some (Sum.inl Bool.false)
           else
            some (Sum.inl Bool.false)) fun v25 =>
          bif v25 then
           bif (decide ((List.length a1) ≤ (List.length (List.set (List.set a1 (Int.toNat a7) (x23.1, (x23.2.1, ((5 : Int), x23.2.2.2)))) (Int.toNat a7) (x24.1, (x24.2.1, (x24.2.2.1, a8))))))) then 
            bindO (dialtoneref23_stop ((List.take (List.length a1) (List.set (List.set a1 (Int.toNat a7) (x23.1, (x23.2.1, ((5 : Int), x23.2.2.2)))) (Int.toNat a7) (x24.1, (x24.2.1, (x24.2.2.1, a8))))), (a7, (a3, (Bool.true, Bool.true))))) fun ((x27, (x28, (x29, (x30, x31)))), x32) =>
            bindO (some (((4 : Int), (a7, a8)) :: ([] : List (Int × (Int × Int))))) fun x33 =>
            bindO (dialtoneref23_skip (x27, (x28, (x29, (x30, x31))))) fun (x35, (x36, (x37, (x38, x39)))) =>
            bif (decide ((List.length x33) ≤ (List.length x33))) then 
             bif (decide (((List.length ((List.take (List.length x33) x33) ++ x32)) * 24) ≤ 140737488355328)) then 
              bindO (some ((List.take (List.length x33) x33) ++ x32)) fun x40 =>
              outO (bif (decide ((List.length x40) ≤ (List.length x40))) then 
               some (Sum.inl ((x35, (x36, (x37, (x38, x39)))), (List.take (List.length x40) x40)))
              else none)
             else none
            else none
           else none
          else
           bif (decide (a8 < (300 : Int))) then
            bindO (some (((5 : Int), (a7, a8)) :: ([] : List (Int × (Int × Int))))) fun x41 =>
            bif ((decide ((List.length x41) ≤ (List.length x41))) && (decide ((List.length a1) ≤ (List.length (List.set (List.set a1 (Int.toNat a7) (x23.1, (x23.2.1, ((5 : Int), x23.2.2.2)))) (Int.toNat a7) (x24.1, (x24.2.1, (x24.2.2.1, a8)))))))) then 
             some (Sum.inl ((List.take (List.length x41) x41), ((List.take (List.length a1) (List.set (List.set a1 (Int.toNat a7) (x23.1, (x23.2.1, ((5 : Int), x23.2.2.2)))) (Int.toNat a7) (x24.1, (x24.2.1, (x24.2.2.1, a8))))), (a2, (a3, (a4, a5))))))
            else none
           else
            bif (decide (a8 ≥ (600 : Int))) then
             bif (decide ((List.length a1) ≤ (List.length (List.set (List.set a1 (Int.toNat a7) (x23.1, (x23.2.1, ((5 : Int), x23.2.2.2)))) (Int.toNat a7) (x24.1, (x24.2.1, (x24.2.2.1, a8))))))) then 
              bindO (dialtoneref23_stop ((List.take (List.length a1) (List.set (List.set a1 (Int.toNat a7) (x23.1, (x23.2.1, ((5 : Int), x23.2.2.2)))) (Int.toNat a7) (x24.1, (x24.2.1, (x24.2.2.1, a8))))), (a2, (a3, (Bool.true, a5))))) fun ((x43, (x44, (x45, (x46, x47)))), x48) =>
              bif (decide (((List.length x48) * 24) ≤ 140737488355328)) then 
               bif (decide ((List.length x48) ≤ (List.length x48))) then 
                some (Sum.inl ((List.take (List.length x48) x48), (x43, (x44, (x45, (x46, x47))))))
               else none
              else none
             else none
            else
             bif (decide ((List.length a1) ≤ (List.length (List.set (List.set a1 (Int.toNat a7) (x23.1, (x23.2.1, ((5 : Int), x23.2.2.2)))) (Int.toNat a7) (x24.1, (x24.2.1, (x24.2.2.1, a8))))))) then 
              some (Sum.inl (([] : List (Int × (Int × Int))), ((List.take (List.length a1) (List.set (List.set a1 (Int.toNat a7) (x23.1, (x23.2.1, ((5 : Int), x23.2.2.2)))) (Int.toNat a7) (x24.1, (x24.2.1, (x24.2.2.1, a8))))), (a2, (a3, (a4, a5))))))
             else none) fun (v50, (v51, (v52, (v53, (v54, v55))))) =>
         bindO (dialtoneref23_goOn (v51, (v52, (v53, (v54, v55))))) fun ((x57, (x58, (x59, (x60, x61)))), x62) =>
         bif (decide ((List.length v50) ≤ (List.length v50))) then 
          bif (decide (((List.length ((List.take (List.length v50) v50) ++ x62)) * 24) ≤ 140737488355328)) then 
           bindO (some ((List.take (List.length v50) v50) ++ x62)) fun x63 =>
           bif (decide ((List.length x63) ≤ (List.length x63))) then 
            some (Sum.inl ((x57, (x58, (x59, (x60, x61)))), (List.take (List.length x63) x63)))
           else none
          else none
         else none
        else none
       else none) fun ((v64, (v65, (v66, (v67, v68)))), v69) =>
      bif (decide ((List.length v69) ≤ (List.length v69))) then 
       some ((v64, (v65, (v66, (v67, v68)))), ((List.take (List.length v69) v69), (0 : Int)))
      else none
     else
      bif (decide (a6 = (3 : Int))) then
       joinO (bif (decide (((0 : Int) ≤ a7) ∧ (a7 < (((List.length a1) : Nat) : Int)))) then 
         bindO a1[(Int.toNat a7)]? fun x70 =>
         bif (decide (((0 : Int) ≤ a7) ∧ (a7 < (((List.length a1) : Nat) : Int)))) then 
          bindO (List.set a1 (Int.toNat a7) (x70.1, (x70.2.1, ((5 : Int), x70.2.2.2))))[(Int.toNat a7)]? fun x71 =>
          joinO (joinO (some (Sum.inl Bool.false)) fun v72 =>
           bif v72 then
            bif (decide ((List.length a1) ≤ (List.length (List.set (List.set a1 (Int.toNat a7) (x70.1, (x70.2.1, ((5 : Int), x70.2.2.2)))) (Int.toNat a7) (x71.1, (x71.2.1, (x71.2.2.1, (408 : Int)))))))) then 
             bindO (dialtoneref23_stop ((List.take (List.length a1) (List.set (List.set a1 (Int.toNat a7) (x70.1, (x70.2.1, ((5 : Int), x70.2.2.2)))) (Int.toNat a7) (x71.1, (x71.2.1, (x71.2.2.1, (408 : Int)))))), (a7, (a3, (Bool.true, Bool.true))))) fun ((x74, (x75, (x76, (x77, x78)))), x79) =>
             bindO (some (((4 : Int), (a7, (408 : Int))) :: ([] : List (Int × (Int × Int))))) fun x80 =>
             bindO (dialtoneref23_skip (x74, (x75, (x76, (x77, x78))))) fun (x82, (x83, (x84, (x85, x86)))) =>
             bif (decide ((List.length x80) ≤ (List.length x80))) then 
              bif (decide (((List.length ((List.take (List.length x80) x80) ++ x79)) * 24) ≤ 140737488355328)) then 
               bindO (some ((List.take (List.length x80) x80) ++ x79)) fun x87 =>
               outO (bif (decide ((List.length x87) ≤ (List.length x87))) then 
                some (Sum.inl ((x82, (x83, (x84, (x85, x86)))), (List.take (List.length x87) x87)))
               else none)
              else none
             else none
            else none
           else
            some (Sum.inl ())) fun _ =>
          bif (decide ((List.length a1) ≤ (List.length (List.set (List.set a1 (Int.toNat a7) (x70.1, (x70.2.1, ((5 : Int), x70.2.2.2)))) (Int.toNat a7) (x71.1, (x71.2.1, (x71.2.2.1, (408 : Int)))))))) then 
           bindO (dialtoneref23_goOn ((List.take (List.length a1) (List.set (List.set a1 (Int.toNat a7) (x70.1, (x70.2.1, ((5 : Int), x70.2.2.2)))) (Int.toNat a7) (x71.1, (x71.2.1, (x71.2.2.1, (408 : Int)))))), (a2, (a3, (a4, a5))))) fun ((x89, (x90, (x91, (x92, x93)))), x94) =>
           bif (decide (((List.length x94) * 24) ≤ 140737488355328)) then 
            bif (decide ((List.length x94) ≤ (List.length x94))) then 
             some (Sum.inl ((x89, (x90, (x91, (x92, x93)))), (List.take (List.length x94) x94)))
            else none
           else none
          else none
         else none
        else none) fun ((v96, (v97, (v98, (v99, v100)))), v101) =>
       bif (decide ((List.length v101) ≤ (List.length v101))) then 
        some ((v96, (v97, (v98, (v99, v100)))), ((List.take (List.length v101) v101), (0 : Int)))
       else none
      else
       bif (decide (a6 = (4 : Int))) then
        bif (decide ((List.length a1) ≤ (List.length a1))) then 
         bindO (dialtoneref23_stop ((List.take (List.length a1) a1), (a2, (Bool.true, (Bool.true, a5))))) fun ((x103, (x104, (x105, (x106, x107)))), x108) =>
         some ((x103, (x104, (x105, (x106, x107)))), (x108, (0 : Int)))
        else none
       else
        bif (decide ((List.length a1) ≤ (List.length a1))) then 
         some (((List.take (List.length a1) a1), (a2, (a3, (a4, a5)))), (([] : List (Int × (Int × Int))), (0 : Int)))
        else none
   else none := rfl
structure CKO (l : List Br) (a2 : Int) (a3 a4 a5 : Bool) (k b c : Int) : Prop where
  v : VP l a2 a3 a4 a5
  k1 : 1 ≤ k
  k4 : k ≤ 4
  b0 : k ≠ 4 → 0 ≤ b ∧ b < (l.length : Int) ∧ Op (l.getD b.toNat d0)
  c1 : k = 1 → 100 ≤ c ∧ c ≤ 199
  c2 : k = 2 → 200 ≤ c ∧ c ≤ 699
  c4 : k = 4 → a5 = false ∧ a3 = false
theorem check_j (l : List Br) (a2 : Int) (a3 a4 a5 : Bool) (k b c : Int) : ∃ e, fork_check ((l, (a2, (a3, (a4, a5)))), (k, (b, c))) = some e ∧ dialtoneref23_wrong ((l, (a2, (a3, (a4, a5)))), (k, (b, c))) = some e ∧ (e = 0 → CKO l a2 a3 a4 a5 k b c) := by
  unfold fork_check dialtoneref23_wrong
  rcases validR_j l a2 a3 a4 a5 with ⟨hv, e⟩ | ⟨hv, e⟩
  · simp only [valid_eq, e]
    have hl := hv.len
    by_cases k4 : k = 4
    · subst k4
      simp (disch := omega) only [↓bindO_some, ↓bindO_none, ↓joinO_inl, ↓joinO_inr, ↓joinO_none, ↓outO_some, ↓outO_none, ↓cond_true, ↓cond_false, ↓cond_and, ↓cond_or, ↓cond_not, ↓cond_ite, ↓if_pos, ↓if_neg, ↓if_true, ↓if_false, List.take_length, Nat.le_refl, Bool.not_true, Bool.not_false]
      cases a5
      · cases a3
        · exact ⟨0, rfl, rfl, fun _ => ⟨hv, by omega, by omega, fun h => (h rfl).elim, fun h => by omega, fun h => by omega, fun _ => ⟨rfl, rfl⟩⟩⟩
        · exact ⟨9, rfl, rfl, fun h => by omega⟩
      · exact ⟨9, rfl, rfl, fun h => by omega⟩
    by_cases k0 : k < 1 ∨ k > 4
    · refine ⟨2, ?_, ?_, fun h => by omega⟩
      · simp (disch := omega) only [↓bindO_some, ↓bindO_none, ↓joinO_inl, ↓joinO_inr, ↓joinO_none, ↓outO_some, ↓outO_none, ↓cond_true, ↓cond_false, ↓cond_and, ↓cond_or, ↓cond_not, ↓cond_ite, ↓if_pos, ↓if_neg, ↓if_true, ↓if_false, List.take_length, Nat.le_refl, Bool.not_true, Bool.not_false]
      · rcases k0 with k0 | k0 <;> simp (disch := omega) only [↓bindO_some, ↓bindO_none, ↓joinO_inl, ↓joinO_inr, ↓joinO_none, ↓outO_some, ↓outO_none, ↓cond_true, ↓cond_false, ↓cond_and, ↓cond_or, ↓cond_not, ↓cond_ite, ↓if_pos, ↓if_neg, ↓if_true, ↓if_false, List.take_length, Nat.le_refl, Bool.not_true, Bool.not_false]
    by_cases hb : 0 ≤ b ∧ b < (l.length : Int)
    · by_cases hc : (k = 1 → 100 ≤ c ∧ c ≤ 199) ∧ (k = 2 → 200 ≤ c ∧ c ≤ 699)
      · refine ⟨if Op (l.getD b.toNat d0) then 0 else 9, ?_, ?_, fun h => ⟨hv, by omega, by omega, fun _ => ⟨hb.1, hb.2, ?_⟩, hc.1, hc.2, fun h => (k4 h).elim⟩⟩
        · by_cases ho : Op (l.getD b.toNat d0)
          · have ho' : decide (1 ≤ (l.getD b.toNat d0).2.2.1 ∧ (l.getD b.toNat d0).2.2.1 ≤ 4) = true := decide_eq_true ho
            rw [if_pos ho]
            rcases (show k = 1 ∨ k = 2 ∨ k = 3 by omega) with h | h | h <;> subst h <;> simp (disch := omega) only [↓bindO_some, ↓bindO_none, ↓joinO_inl, ↓joinO_inr, ↓joinO_none, ↓outO_some, ↓outO_none, ↓cond_true, ↓cond_false, ↓cond_and, ↓cond_or, ↓cond_not, ↓cond_ite, ↓if_pos, ↓if_neg, ↓if_true, ↓if_false, List.take_length, Nat.le_refl, Bool.not_true, Bool.not_false, ↓get_bz d0, ↓open_b, Op, ho']
          · have ho' : decide (1 ≤ (l.getD b.toNat d0).2.2.1 ∧ (l.getD b.toNat d0).2.2.1 ≤ 4) = false := decide_eq_false ho
            rw [if_neg ho]
            rcases (show k = 1 ∨ k = 2 ∨ k = 3 by omega) with h | h | h <;> subst h <;> simp (disch := omega) only [↓bindO_some, ↓bindO_none, ↓joinO_inl, ↓joinO_inr, ↓joinO_none, ↓outO_some, ↓outO_none, ↓cond_true, ↓cond_false, ↓cond_and, ↓cond_or, ↓cond_not, ↓cond_ite, ↓if_pos, ↓if_neg, ↓if_true, ↓if_false, List.take_length, Nat.le_refl, Bool.not_true, Bool.not_false, ↓get_bz d0, ↓open_b, Op, ho']
        · by_cases ho : Op (l.getD b.toNat d0)
          · have ho' : decide (1 ≤ (l.getD b.toNat d0).2.2.1 ∧ (l.getD b.toNat d0).2.2.1 ≤ 4) = true := decide_eq_true ho
            rw [if_pos ho]
            rcases (show k = 1 ∨ k = 2 ∨ k = 3 by omega) with h | h | h <;> subst h <;> simp (disch := omega) only [↓bindO_some, ↓bindO_none, ↓joinO_inl, ↓joinO_inr, ↓joinO_none, ↓outO_some, ↓outO_none, ↓cond_true, ↓cond_false, ↓cond_and, ↓cond_or, ↓cond_not, ↓cond_ite, ↓if_pos, ↓if_neg, ↓if_true, ↓if_false, List.take_length, Nat.le_refl, Bool.not_true, Bool.not_false, ↓get_bz d0, ↓openR_b, Op, ho']
          · have ho' : decide (1 ≤ (l.getD b.toNat d0).2.2.1 ∧ (l.getD b.toNat d0).2.2.1 ≤ 4) = false := decide_eq_false ho
            rw [if_neg ho]
            rcases (show k = 1 ∨ k = 2 ∨ k = 3 by omega) with h | h | h <;> subst h <;> simp (disch := omega) only [↓bindO_some, ↓bindO_none, ↓joinO_inl, ↓joinO_inr, ↓joinO_none, ↓outO_some, ↓outO_none, ↓cond_true, ↓cond_false, ↓cond_and, ↓cond_or, ↓cond_not, ↓cond_ite, ↓if_pos, ↓if_neg, ↓if_true, ↓if_false, List.take_length, Nat.le_refl, Bool.not_true, Bool.not_false, ↓get_bz d0, ↓openR_b, Op, ho']
        · by_cases ho : Op (l.getD b.toNat d0)
          · exact ho
          · rw [if_neg ho] at h; omega
      · refine ⟨2, ?_, ?_, fun h => by omega⟩
        · by_cases h1 : k = 1
          · subst h1
            rcases (show c < 100 ∨ c > 199 by omega) with h | h <;> simp (disch := omega) only [↓bindO_some, ↓bindO_none, ↓joinO_inl, ↓joinO_inr, ↓joinO_none, ↓outO_some, ↓outO_none, ↓cond_true, ↓cond_false, ↓cond_and, ↓cond_or, ↓cond_not, ↓cond_ite, ↓if_pos, ↓if_neg, ↓if_true, ↓if_false, List.take_length, Nat.le_refl, Bool.not_true, Bool.not_false]
          · have h2 : k = 2 := by omega
            subst h2
            rcases (show c < 200 ∨ c > 699 by omega) with h | h <;> simp (disch := omega) only [↓bindO_some, ↓bindO_none, ↓joinO_inl, ↓joinO_inr, ↓joinO_none, ↓outO_some, ↓outO_none, ↓cond_true, ↓cond_false, ↓cond_and, ↓cond_or, ↓cond_not, ↓cond_ite, ↓if_pos, ↓if_neg, ↓if_true, ↓if_false, List.take_length, Nat.le_refl, Bool.not_true, Bool.not_false]
        · by_cases h1 : k = 1
          · subst h1
            rcases (show c < 100 ∨ c > 199 by omega) with h | h <;> simp (disch := omega) only [↓bindO_some, ↓bindO_none, ↓joinO_inl, ↓joinO_inr, ↓joinO_none, ↓outO_some, ↓outO_none, ↓cond_true, ↓cond_false, ↓cond_and, ↓cond_or, ↓cond_not, ↓cond_ite, ↓if_pos, ↓if_neg, ↓if_true, ↓if_false, List.take_length, Nat.le_refl, Bool.not_true, Bool.not_false]
          · have h2 : k = 2 := by omega
            subst h2
            rcases (show c < 200 ∨ c > 699 by omega) with h | h <;> simp (disch := omega) only [↓bindO_some, ↓bindO_none, ↓joinO_inl, ↓joinO_inr, ↓joinO_none, ↓outO_some, ↓outO_none, ↓cond_true, ↓cond_false, ↓cond_and, ↓cond_or, ↓cond_not, ↓cond_ite, ↓if_pos, ↓if_neg, ↓if_true, ↓if_false, List.take_length, Nat.le_refl, Bool.not_true, Bool.not_false]
    · refine ⟨2, ?_, ?_, fun h => by omega⟩
      · rcases (show k = 1 ∨ k = 2 ∨ k = 3 by omega) with h | h | h <;> subst h <;> rcases (show b < 0 ∨ b ≥ (l.length : Int) by omega) with h | h
        · by_cases h1 : c < 100
          · simp (disch := omega) only [↓bindO_some, ↓bindO_none, ↓joinO_inl, ↓joinO_inr, ↓joinO_none, ↓outO_some, ↓outO_none, ↓cond_true, ↓cond_false, ↓cond_and, ↓cond_or, ↓cond_not, ↓cond_ite, ↓if_pos, ↓if_neg, ↓if_true, ↓if_false, List.take_length, Nat.le_refl, Bool.not_true, Bool.not_false]
          · by_cases h2 : c > 199 <;> simp (disch := omega) only [↓bindO_some, ↓bindO_none, ↓joinO_inl, ↓joinO_inr, ↓joinO_none, ↓outO_some, ↓outO_none, ↓cond_true, ↓cond_false, ↓cond_and, ↓cond_or, ↓cond_not, ↓cond_ite, ↓if_pos, ↓if_neg, ↓if_true, ↓if_false, List.take_length, Nat.le_refl, Bool.not_true, Bool.not_false]
        · by_cases h1 : c < 100
          · simp (disch := omega) only [↓bindO_some, ↓bindO_none, ↓joinO_inl, ↓joinO_inr, ↓joinO_none, ↓outO_some, ↓outO_none, ↓cond_true, ↓cond_false, ↓cond_and, ↓cond_or, ↓cond_not, ↓cond_ite, ↓if_pos, ↓if_neg, ↓if_true, ↓if_false, List.take_length, Nat.le_refl, Bool.not_true, Bool.not_false]
          · by_cases h2 : c > 199 <;> simp (disch := omega) only [↓bindO_some, ↓bindO_none, ↓joinO_inl, ↓joinO_inr, ↓joinO_none, ↓outO_some, ↓outO_none, ↓cond_true, ↓cond_false, ↓cond_and, ↓cond_or, ↓cond_not, ↓cond_ite, ↓if_pos, ↓if_neg, ↓if_true, ↓if_false, List.take_length, Nat.le_refl, Bool.not_true, Bool.not_false]
        · by_cases h1 : c < 200
          · simp (disch := omega) only [↓bindO_some, ↓bindO_none, ↓joinO_inl, ↓joinO_inr, ↓joinO_none, ↓outO_some, ↓outO_none, ↓cond_true, ↓cond_false, ↓cond_and, ↓cond_or, ↓cond_not, ↓cond_ite, ↓if_pos, ↓if_neg, ↓if_true, ↓if_false, List.take_length, Nat.le_refl, Bool.not_true, Bool.not_false]
          · by_cases h2 : c > 699 <;> simp (disch := omega) only [↓bindO_some, ↓bindO_none, ↓joinO_inl, ↓joinO_inr, ↓joinO_none, ↓outO_some, ↓outO_none, ↓cond_true, ↓cond_false, ↓cond_and, ↓cond_or, ↓cond_not, ↓cond_ite, ↓if_pos, ↓if_neg, ↓if_true, ↓if_false, List.take_length, Nat.le_refl, Bool.not_true, Bool.not_false]
        · by_cases h1 : c < 200
          · simp (disch := omega) only [↓bindO_some, ↓bindO_none, ↓joinO_inl, ↓joinO_inr, ↓joinO_none, ↓outO_some, ↓outO_none, ↓cond_true, ↓cond_false, ↓cond_and, ↓cond_or, ↓cond_not, ↓cond_ite, ↓if_pos, ↓if_neg, ↓if_true, ↓if_false, List.take_length, Nat.le_refl, Bool.not_true, Bool.not_false]
          · by_cases h2 : c > 699 <;> simp (disch := omega) only [↓bindO_some, ↓bindO_none, ↓joinO_inl, ↓joinO_inr, ↓joinO_none, ↓outO_some, ↓outO_none, ↓cond_true, ↓cond_false, ↓cond_and, ↓cond_or, ↓cond_not, ↓cond_ite, ↓if_pos, ↓if_neg, ↓if_true, ↓if_false, List.take_length, Nat.le_refl, Bool.not_true, Bool.not_false]
        · simp (disch := omega) only [↓bindO_some, ↓bindO_none, ↓joinO_inl, ↓joinO_inr, ↓joinO_none, ↓outO_some, ↓outO_none, ↓cond_true, ↓cond_false, ↓cond_and, ↓cond_or, ↓cond_not, ↓cond_ite, ↓if_pos, ↓if_neg, ↓if_true, ↓if_false, List.take_length, Nat.le_refl, Bool.not_true, Bool.not_false]
        · simp (disch := omega) only [↓bindO_some, ↓bindO_none, ↓joinO_inl, ↓joinO_inr, ↓joinO_none, ↓outO_some, ↓outO_none, ↓cond_true, ↓cond_false, ↓cond_and, ↓cond_or, ↓cond_not, ↓cond_ite, ↓if_pos, ↓if_neg, ↓if_true, ↓if_false, List.take_length, Nat.le_refl, Bool.not_true, Bool.not_false]
      · rcases (show k = 1 ∨ k = 2 ∨ k = 3 by omega) with h | h | h <;> subst h <;> rcases (show b < 0 ∨ b ≥ (l.length : Int) by omega) with h | h <;> simp (disch := omega) only [↓bindO_some, ↓bindO_none, ↓joinO_inl, ↓joinO_inr, ↓joinO_none, ↓outO_some, ↓outO_none, ↓cond_true, ↓cond_false, ↓cond_and, ↓cond_or, ↓cond_not, ↓cond_ite, ↓if_pos, ↓if_neg, ↓if_true, ↓if_false, List.take_length, Nat.le_refl, Bool.not_true, Bool.not_false]
  · simp only [valid_eq, e]
    exact ⟨2, rfl, rfl, fun h => by omega⟩
def PV (l : List Br) (i : Nat) (c : Int) : List Br × List Ac :=
  if (l.getD i d0).2.2.1 = 1 then (List.set l i ((l.getD i d0).1, ((l.getD i d0).2.1, (2, (l.getD i d0).2.2.2))), if c > 100 then [(3, ((i : Int), c))] else []) else
  if (l.getD i d0).2.2.1 = 3 then (List.set l i ((l.getD i d0).1, ((l.getD i d0).2.1, (4, (l.getD i d0).2.2.2))), [(2, ((i : Int), 0))]) else
  (l, if (l.getD i d0).2.2.1 = 2 ∧ c > 100 then [(3, ((i : Int), c))] else [])
def fs (l : List Br) (i : Nat) (c : Int) : List Br := List.set l i ((l.getD i d0).1, ((l.getD i d0).2.1, (5, c)))
abbrev Fk := List Br × (Int × (Bool × (Bool × Bool)))
noncomputable def FIN (l : List Br) (a2 : Int) (a3 a4 a5 : Bool) (i : Nat) (c : Int) : Fk × List Ac :=
 if c < 300 ∧ a5 = false ∧ a3 = false then ((((fs l i c).map fst1).map fsk, ((i : Int), (a3, (true, true)))), (4, ((i : Int), c)) :: ac pRg 2 (fs l i c) l.length) else
 if c < 300 then (((GO (fs l i c) a3 a4 a5).1, (a2, (a3, (a4, (GO (fs l i c) a3 a4 a5).2.1)))), (5, ((i : Int), c)) :: (GO (fs l i c) a3 a4 a5).2.2) else
 if c ≥ 600 then (((GO ((fs l i c).map fst1) a3 true a5).1, (a2, (a3, (true, (GO ((fs l i c).map fst1) a3 true a5).2.1)))), ac pRg 2 (fs l i c) l.length ++ (GO ((fs l i c).map fst1) a3 true a5).2.2) else
 (((GO (fs l i c) a3 a4 a5).1, (a2, (a3, (a4, (GO (fs l i c) a3 a4 a5).2.1)))), (GO (fs l i c) a3 a4 a5).2.2)
noncomputable def STC (l : List Br) (a2 : Int) (a3 a4 a5 : Bool) (k b c : Int) : Fk × List Ac :=
 if k = 1 then (((PV l b.toNat c).1, (a2, (a3, (a4, a5)))), (PV l b.toNat c).2) else
 if k = 2 then FIN l a2 a3 a4 a5 b.toNat c else
 if k = 3 then FIN l a2 a3 a4 a5 b.toNat 408 else
 ((l.map fst1, (a2, (true, (true, a5)))), ac pRg 2 l l.length)
end Go.Proofs.Ytheicchelhjcjaa
