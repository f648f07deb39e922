import Derived.Test.YtohhpcggahlpjaaY2p
import Derived.Test.YtohhpcggahlpjaaFp
import Derived.Test.YtohhpcggahlpjaaXBp
import Derived.Test.YtohhpcggahlpjaaZ1p
set_option linter.unusedVariables false
set_option maxRecDepth 1000000
set_option maxHeartbeats 0
namespace Go.Proofs.Ytohhpcggahlpjaa
open Go.RowKit
def client_Start_F : PUnit → Option ((Int × (Int × Int)) × (List (Int × (Int × (Int × Int))))) := fun _ =>
  some (((2 : Int), ((500 : Int), (0 : Int))), (((1 : Int), ((0 : Int), ((0 : Int), (0 : Int)))) :: (((4 : Int), ((0 : Int), ((5 : Int), (500 : Int)))) :: (((4 : Int), ((0 : Int), ((6 : Int), (32000 : Int)))) :: ([] : List (Int × (Int × (Int × Int))))))))
theorem client_Start_le (x : _) : LeO (client_Start_F x) (client_Start x) := fun r h => h
def client_May_F : (Int × (Int × Int)) → Option Bool := fun (a1, (a2, a3)) =>
  joinO (bif (decide (a1 = (2 : Int))) then
    some (Sum.inl Bool.true)
   else
    some (Sum.inl (decide (a1 = (3 : Int))))) fun v4 =>
  bif v4 then
   bif (decide (a3 = (0 : Int))) then
    bif (decide (a2 = (500 : Int))) then
     some Bool.true
    else
     bif (decide (a2 = (1000 : Int))) then
      some Bool.true
     else
      bif (decide (a2 = (2000 : Int))) then
       some Bool.true
      else
       some (decide (a2 = (4000 : Int)))
   else
    some Bool.false
  else
   bif (decide (a1 = (5 : Int))) then
    bif (decide (a2 = (0 : Int))) then
     bif (decide (a3 ≥ (200 : Int))) then
      some (decide (a3 ≤ (699 : Int)))
     else
      some Bool.false
    else
     some Bool.false
   else
    bif (decide (a1 = (7 : Int))) then
     bif (decide (a2 = (0 : Int))) then
      bif (decide (a3 = (0 : Int))) then
       some Bool.true
      else
       bif (decide (a3 ≥ (200 : Int))) then
        some (decide (a3 ≤ (699 : Int)))
       else
        some Bool.false
     else
      some Bool.false
    else
     some Bool.false
def client_Step_F : ((Int × (Int × Int)) × (Int × (Int × Int))) → Option ((Int × (Int × Int)) × (List (Int × (Int × (Int × Int))))) := fun ((a1, (a2, a3)), (a4, (a5, a6))) =>
  bindO (client_May_F (a1, (a2, a3))) fun x7 =>
  bif (!x7) then
   some (((0 : Int), ((0 : Int), (0 : Int))), ([] : List (Int × (Int × (Int × Int)))))
  else
   bif (decide (((0 : Int) ≤ a1) ∧ (a1 < (8 : Int)))) then 
    bif (decide ((Int.toNat a1) = 7)) then
     bif (!((decide (a1 = a1)) && ((decide (a2 = a2)) && (decide (a3 = a3))))) then
      bif (decide (a1 = (7 : Int))) then
       bindO (some (((7 : Int), ((0 : Int), ((0 : Int), (0 : Int)))) :: ([] : List (Int × (Int × (Int × Int)))))) fun x8 =>
       bif (decide ((List.length x8) ≤ (List.length x8))) then 
        some ((a1, (a2, a3)), (List.take (List.length x8) x8))
       else none
      else
       some ((a1, (a2, a3)), ([] : List (Int × (Int × (Int × Int)))))
     else
      some ((a1, (a2, a3)), ([] : List (Int × (Int × (Int × Int)))))
    else
     bif (decide ((Int.toNat a1) = 6)) then
      none 
     else
      bif (decide ((Int.toNat a1) = 5)) then
       bif (decide (a4 = (5 : Int))) then
        bif (decide (a6 = (11 : Int))) then
         bif (!((decide ((7 : Int) = a1)) && ((decide ((0 : Int) = a2)) && (decide (a3 = a3))))) then
          bindO (some (((7 : Int), ((0 : Int), ((0 : Int), (0 : Int)))) :: ([] : List (Int × (Int × (Int × Int)))))) fun x9 =>
          bif (decide ((List.length x9) ≤ (List.length x9))) then 
           some (((7 : Int), ((0 : Int), a3)), (List.take (List.length x9) x9))
          else none
         else
          some (((7 : Int), ((0 : Int), a3)), ([] : List (Int × (Int × (Int × Int)))))
        else
         bif (!((decide (a1 = a1)) && ((decide (a2 = a2)) && (decide (a3 = a3))))) then
          bif (decide (a1 = (7 : Int))) then
           bindO (some (((7 : Int), ((0 : Int), ((0 : Int), (0 : Int)))) :: ([] : List (Int × (Int × (Int × Int)))))) fun x10 =>
           bif (decide ((List.length x10) ≤ (List.length x10))) then 
            some ((a1, (a2, a3)), (List.take (List.length x10) x10))
           else none
          else
           some ((a1, (a2, a3)), ([] : List (Int × (Int × (Int × Int)))))
         else
          some ((a1, (a2, a3)), ([] : List (Int × (Int × (Int × Int)))))
       else
        bif (!((decide (a1 = a1)) && ((decide (a2 = a2)) && (decide (a3 = a3))))) then
         bif (decide (a1 = (7 : Int))) then
          bindO (some (((7 : Int), ((0 : Int), ((0 : Int), (0 : Int)))) :: ([] : List (Int × (Int × (Int × Int)))))) fun x11 =>
          bif (decide ((List.length x11) ≤ (List.length x11))) then 
           some ((a1, (a2, a3)), (List.take (List.length x11) x11))
          else none
         else
          some ((a1, (a2, a3)), ([] : List (Int × (Int × (Int × Int)))))
        else
         some ((a1, (a2, a3)), ([] : List (Int × (Int × (Int × Int)))))
      else
       bif (decide ((Int.toNat a1) = 4)) then
        none 
       else
        bif (decide ((Int.toNat a1) = 3)) then
         bif (decide (a4 = (5 : Int))) then
          bif (decide (a6 = (5 : Int))) then
           joinO (bif (decide (a1 = (2 : Int))) then
             some (Sum.inl (minA (Go.IntKind.wrap .i64 ((2 : Int) * a2)) (4000 : Int)))
            else
             some (Sum.inl (4000 : Int))) fun v13 =>
           bif (!((decide (a1 = a1)) && ((decide (v13 = a2)) && (decide (a3 = a3))))) then
            bif (decide (a1 = (7 : Int))) then
             bindO (some (((1 : Int), ((0 : Int), ((0 : Int), (0 : Int)))) :: (((4 : Int), ((0 : Int), ((5 : Int), v13))) :: (((7 : Int), ((0 : Int), ((0 : Int), (0 : Int)))) :: ([] : List (Int × (Int × (Int × Int)))))))) fun x14 =>
             bif (decide ((List.length x14) ≤ (List.length x14))) then 
              some ((a1, (v13, a3)), (List.take (List.length x14) x14))
             else none
            else
             some ((a1, (v13, a3)), (((1 : Int), ((0 : Int), ((0 : Int), (0 : Int)))) :: (((4 : Int), ((0 : Int), ((5 : Int), v13))) :: ([] : List (Int × (Int × (Int × Int)))))))
           else
            some ((a1, (v13, a3)), (((1 : Int), ((0 : Int), ((0 : Int), (0 : Int)))) :: (((4 : Int), ((0 : Int), ((5 : Int), v13))) :: ([] : List (Int × (Int × (Int × Int)))))))
          else
           bif (decide (a4 = (5 : Int))) then
            bif (decide (a6 = (6 : Int))) then
             bif (!((decide ((7 : Int) = a1)) && ((decide ((0 : Int) = a2)) && (decide (a3 = a3))))) then
              bindO (some (((5 : Int), ((0 : Int), ((0 : Int), (0 : Int)))) :: (((7 : Int), ((0 : Int), ((0 : Int), (0 : Int)))) :: ([] : List (Int × (Int × (Int × Int))))))) fun x15 =>
              bif (decide ((List.length x15) ≤ (List.length x15))) then 
               some (((7 : Int), ((0 : Int), a3)), (List.take (List.length x15) x15))
              else none
             else
              some (((7 : Int), ((0 : Int), a3)), (((5 : Int), ((0 : Int), ((0 : Int), (0 : Int)))) :: ([] : List (Int × (Int × (Int × Int))))))
            else
             bif (decide (a4 = (6 : Int))) then
              bif (!((decide ((7 : Int) = a1)) && ((decide ((0 : Int) = a2)) && (decide (a3 = a3))))) then
               bindO (some (((6 : Int), ((0 : Int), ((0 : Int), (0 : Int)))) :: (((7 : Int), ((0 : Int), ((0 : Int), (0 : Int)))) :: ([] : List (Int × (Int × (Int × Int))))))) fun x16 =>
               bif (decide ((List.length x16) ≤ (List.length x16))) then 
                some (((7 : Int), ((0 : Int), a3)), (List.take (List.length x16) x16))
               else none
              else
               some (((7 : Int), ((0 : Int), a3)), (((6 : Int), ((0 : Int), ((0 : Int), (0 : Int)))) :: ([] : List (Int × (Int × (Int × Int))))))
             else
              joinO (bif (decide (a4 = (2 : Int))) then
                bif (decide (a5 ≥ (100 : Int))) then
                 some (Sum.inl (decide (a5 ≤ (199 : Int))))
                else
                 some (Sum.inl Bool.false)
               else
                some (Sum.inl Bool.false)) fun v17 =>
              bif v17 then
               bif (!((decide ((3 : Int) = a1)) && ((decide (a2 = a2)) && (decide (a3 = a3))))) then
                some (((3 : Int), (a2, a3)), (((3 : Int), (a5, ((0 : Int), (0 : Int)))) :: ([] : List (Int × (Int × (Int × Int))))))
               else
                some (((3 : Int), (a2, a3)), (((3 : Int), (a5, ((0 : Int), (0 : Int)))) :: ([] : List (Int × (Int × (Int × Int))))))
              else
               joinO (bif (decide (a4 = (2 : Int))) then
                 bif (decide (a5 ≥ (200 : Int))) then
                  some (Sum.inl (decide (a5 ≤ (699 : Int))))
                 else
                  some (Sum.inl Bool.false)
                else
                 some (Sum.inl Bool.false)) fun v18 =>
               bif v18 then
                bif (!((decide ((5 : Int) = a1)) && ((decide ((0 : Int) = a2)) && (decide (a5 = a3))))) then
                 some (((5 : Int), ((0 : Int), a5)), (((3 : Int), (a5, ((0 : Int), (0 : Int)))) :: (((4 : Int), ((0 : Int), ((11 : Int), (5000 : Int)))) :: ([] : List (Int × (Int × (Int × Int)))))))
                else
                 some (((5 : Int), ((0 : Int), a5)), (((3 : Int), (a5, ((0 : Int), (0 : Int)))) :: (((4 : Int), ((0 : Int), ((11 : Int), (5000 : Int)))) :: ([] : List (Int × (Int × (Int × Int)))))))
               else
                bif (!((decide (a1 = a1)) && ((decide (a2 = a2)) && (decide (a3 = a3))))) then
                 bif (decide (a1 = (7 : Int))) then
                  bindO (some (((7 : Int), ((0 : Int), ((0 : Int), (0 : Int)))) :: ([] : List (Int × (Int × (Int × Int)))))) fun x19 =>
                  bif (decide ((List.length x19) ≤ (List.length x19))) then 
                   some ((a1, (a2, a3)), (List.take (List.length x19) x19))
                  else none
                 else
                  some ((a1, (a2, a3)), ([] : List (Int × (Int × (Int × Int)))))
                else
                 some ((a1, (a2, a3)), ([] : List (Int × (Int × (Int × Int)))))
           else
            bif (decide (a4 = (6 : Int))) then
             bif (!((decide ((7 : Int) = a1)) && ((decide ((0 : Int) = a2)) && (decide (a3 = a3))))) then
              bindO (some (((6 : Int), ((0 : Int), ((0 : Int), (0 : Int)))) :: (((7 : Int), ((0 : Int), ((0 : Int), (0 : Int)))) :: ([] : List (Int × (Int × (Int × Int))))))) fun x20 =>
              bif (decide ((List.length x20) ≤ (List.length x20))) then 
               some (((7 : Int), ((0 : Int), a3)), (List.take (List.length x20) x20))
              else none
             else
              some (((7 : Int), ((0 : Int), a3)), (((6 : Int), ((0 : Int), ((0 : Int), (0 : Int)))) :: ([] : List (Int × (Int × (Int × Int))))))
            else
             joinO (bif (decide (a4 = (2 : Int))) then
               bif (decide (a5 ≥ (100 : Int))) then
                some (Sum.inl (decide (a5 ≤ (199 : Int))))
               else
                some (Sum.inl Bool.false)
              else
               some (Sum.inl Bool.false)) fun v21 =>
             bif v21 then
              bif (!((decide ((3 : Int) = a1)) && ((decide (a2 = a2)) && (decide (a3 = a3))))) then
               some (((3 : Int), (a2, a3)), (((3 : Int), (a5, ((0 : Int), (0 : Int)))) :: ([] : List (Int × (Int × (Int × Int))))))
              else
               some (((3 : Int), (a2, a3)), (((3 : Int), (a5, ((0 : Int), (0 : Int)))) :: ([] : List (Int × (Int × (Int × Int))))))
             else
              joinO (bif (decide (a4 = (2 : Int))) then
                bif (decide (a5 ≥ (200 : Int))) then
                 some (Sum.inl (decide (a5 ≤ (699 : Int))))
                else
                 some (Sum.inl Bool.false)
               else
                some (Sum.inl Bool.false)) fun v22 =>
              bif v22 then
               bif (!((decide ((5 : Int) = a1)) && ((decide ((0 : Int) = a2)) && (decide (a5 = a3))))) then
                some (((5 : Int), ((0 : Int), a5)), (((3 : Int), (a5, ((0 : Int), (0 : Int)))) :: (((4 : Int), ((0 : Int), ((11 : Int), (5000 : Int)))) :: ([] : List (Int × (Int × (Int × Int)))))))
               else
                some (((5 : Int), ((0 : Int), a5)), (((3 : Int), (a5, ((0 : Int), (0 : Int)))) :: (((4 : Int), ((0 : Int), ((11 : Int), (5000 : Int)))) :: ([] : List (Int × (Int × (Int × Int)))))))
              else
               bif (!((decide (a1 = a1)) && ((decide (a2 = a2)) && (decide (a3 = a3))))) then
                bif (decide (a1 = (7 : Int))) then
                 bindO (some (((7 : Int), ((0 : Int), ((0 : Int), (0 : Int)))) :: ([] : List (Int × (Int × (Int × Int)))))) fun x23 =>
                 bif (decide ((List.length x23) ≤ (List.length x23))) then 
                  some ((a1, (a2, a3)), (List.take (List.length x23) x23))
                 else none
                else
                 some ((a1, (a2, a3)), ([] : List (Int × (Int × (Int × Int)))))
               else
                some ((a1, (a2, a3)), ([] : List (Int × (Int × (Int × Int)))))
         else
          bif (decide (a4 = (5 : Int))) then
           bif (decide (a6 = (6 : Int))) then
            bif (!((decide ((7 : Int) = a1)) && ((decide ((0 : Int) = a2)) && (decide (a3 = a3))))) then
             bindO (some (((5 : Int), ((0 : Int), ((0 : Int), (0 : Int)))) :: (((7 : Int), ((0 : Int), ((0 : Int), (0 : Int)))) :: ([] : List (Int × (Int × (Int × Int))))))) fun x24 =>
             bif (decide ((List.length x24) ≤ (List.length x24))) then 
              some (((7 : Int), ((0 : Int), a3)), (List.take (List.length x24) x24))
             else none
            else
             some (((7 : Int), ((0 : Int), a3)), (((5 : Int), ((0 : Int), ((0 : Int), (0 : Int)))) :: ([] : List (Int × (Int × (Int × Int))))))
           else
            bif (decide (a4 = (6 : Int))) then
             bif (!((decide ((7 : Int) = a1)) && ((decide ((0 : Int) = a2)) && (decide (a3 = a3))))) then
              bindO (some (((6 : Int), ((0 : Int), ((0 : Int), (0 : Int)))) :: (((7 : Int), ((0 : Int), ((0 : Int), (0 : Int)))) :: ([] : List (Int × (Int × (Int × Int))))))) fun x25 =>
              bif (decide ((List.length x25) ≤ (List.length x25))) then 
               some (((7 : Int), ((0 : Int), a3)), (List.take (List.length x25) x25))
              else none
             else
              some (((7 : Int), ((0 : Int), a3)), (((6 : Int), ((0 : Int), ((0 : Int), (0 : Int)))) :: ([] : List (Int × (Int × (Int × Int))))))
            else
             joinO (bif (decide (a4 = (2 : Int))) then
               bif (decide (a5 ≥ (100 : Int))) then
                some (Sum.inl (decide (a5 ≤ (199 : Int))))
               else
                some (Sum.inl Bool.false)
              else
               some (Sum.inl Bool.false)) fun v26 =>
             bif v26 then
              bif (!((decide ((3 : Int) = a1)) && ((decide (a2 = a2)) && (decide (a3 = a3))))) then
               some (((3 : Int), (a2, a3)), (((3 : Int), (a5, ((0 : Int), (0 : Int)))) :: ([] : List (Int × (Int × (Int × Int))))))
              else
               some (((3 : Int), (a2, a3)), (((3 : Int), (a5, ((0 : Int), (0 : Int)))) :: ([] : List (Int × (Int × (Int × Int))))))
             else
              joinO (bif (decide (a4 = (2 : Int))) then
                bif (decide (a5 ≥ (200 : Int))) then
                 some (Sum.inl (decide (a5 ≤ (699 : Int))))
                else
                 some (Sum.inl Bool.false)
               else
                some (Sum.inl Bool.false)) fun v27 =>
              bif v27 then
               bif (!((decide ((5 : Int) = a1)) && ((decide ((0 : Int) = a2)) && (decide (a5 = a3))))) then
                some (((5 : Int), ((0 : Int), a5)), (((3 : Int), (a5, ((0 : Int), (0 : Int)))) :: (((4 : Int), ((0 : Int), ((11 : Int), (5000 : Int)))) :: ([] : List (Int × (Int × (Int × Int)))))))
               else
                some (((5 : Int), ((0 : Int), a5)), (((3 : Int), (a5, ((0 : Int), (0 : Int)))) :: (((4 : Int), ((0 : Int), ((11 : Int), (5000 : Int)))) :: ([] : List (Int × (Int × (Int × Int)))))))
              else
               bif (!((decide (a1 = a1)) && ((decide (a2 = a2)) && (decide (a3 = a3))))) then
                bif (decide (a1 = (7 : Int))) then
                 bindO (some (((7 : Int), ((0 : Int), ((0 : Int), (0 : Int)))) :: ([] : List (Int × (Int × (Int × Int)))))) fun x28 =>
                 bif (decide ((List.length x28) ≤ (List.length x28))) then 
                  some ((a1, (a2, a3)), (List.take (List.length x28) x28))
                 else none
                else
                 some ((a1, (a2, a3)), ([] : List (Int × (Int × (Int × Int)))))
               else
                some ((a1, (a2, a3)), ([] : List (Int × (Int × (Int × Int)))))
          else
           bif (decide (a4 = (6 : Int))) then
            bif (!((decide ((7 : Int) = a1)) && ((decide ((0 : Int) = a2)) && (decide (a3 = a3))))) then
             bindO (some (((6 : Int), ((0 : Int), ((0 : Int), (0 : Int)))) :: (((7 : Int), ((0 : Int), ((0 : Int), (0 : Int)))) :: ([] : List (Int × (Int × (Int × Int))))))) fun x29 =>
             bif (decide ((List.length x29) ≤ (List.length x29))) then 
              some (((7 : Int), ((0 : Int), a3)), (List.take (List.length x29) x29))
             else none
            else
             some (((7 : Int), ((0 : Int), a3)), (((6 : Int), ((0 : Int), ((0 : Int), (0 : Int)))) :: ([] : List (Int × (Int × (Int × Int))))))
           else
            joinO (bif (decide (a4 = (2 : Int))) then
              bif (decide (a5 ≥ (100 : Int))) then
               some (Sum.inl (decide (a5 ≤ (199 : Int))))
              else
               some (Sum.inl Bool.false)
             else
              some (Sum.inl Bool.false)) fun v30 =>
            bif v30 then
             bif (!((decide ((3 : Int) = a1)) && ((decide (a2 = a2)) && (decide (a3 = a3))))) then
              some (((3 : Int), (a2, a3)), (((3 : Int), (a5, ((0 : Int), (0 : Int)))) :: ([] : List (Int × (Int × (Int × Int))))))
             else
              some (((3 : Int), (a2, a3)), (((3 : Int), (a5, ((0 : Int), (0 : Int)))) :: ([] : List (Int × (Int × (Int × Int))))))
            else
             joinO (bif (decide (a4 = (2 : Int))) then
               bif (decide (a5 ≥ (200 : Int))) then
                some (Sum.inl (decide (a5 ≤ (699 : Int))))
               else
                some (Sum.inl Bool.false)
              else
               some (Sum.inl Bool.false)) fun v31 =>
             bif v31 then
              bif (!((decide ((5 : Int) = a1)) && ((decide ((0 : Int) = a2)) && (decide (a5 = a3))))) then
               some (((5 : Int), ((0 : Int), a5)), (((3 : Int), (a5, ((0 : Int), (0 : Int)))) :: (((4 : Int), ((0 : Int), ((11 : Int), (5000 : Int)))) :: ([] : List (Int × (Int × (Int × Int)))))))
              else
               some (((5 : Int), ((0 : Int), a5)), (((3 : Int), (a5, ((0 : Int), (0 : Int)))) :: (((4 : Int), ((0 : Int), ((11 : Int), (5000 : Int)))) :: ([] : List (Int × (Int × (Int × Int)))))))
             else
              bif (!((decide (a1 = a1)) && ((decide (a2 = a2)) && (decide (a3 = a3))))) then
               bif (decide (a1 = (7 : Int))) then
                bindO (some (((7 : Int), ((0 : Int), ((0 : Int), (0 : Int)))) :: ([] : List (Int × (Int × (Int × Int)))))) fun x32 =>
                bif (decide ((List.length x32) ≤ (List.length x32))) then 
                 some ((a1, (a2, a3)), (List.take (List.length x32) x32))
                else none
               else
                some ((a1, (a2, a3)), ([] : List (Int × (Int × (Int × Int)))))
              else
               some ((a1, (a2, a3)), ([] : List (Int × (Int × (Int × Int)))))
        else
         bif (decide ((Int.toNat a1) = 2)) then
          bif (decide (a4 = (5 : Int))) then
           bif (decide (a6 = (5 : Int))) then
            joinO (bif (decide (a1 = (2 : Int))) then
              some (Sum.inl (minA (Go.IntKind.wrap .i64 ((2 : Int) * a2)) (4000 : Int)))
             else
              some (Sum.inl (4000 : Int))) fun v34 =>
            bif (!((decide (a1 = a1)) && ((decide (v34 = a2)) && (decide (a3 = a3))))) then
             bif (decide (a1 = (7 : Int))) then
              bindO (some (((1 : Int), ((0 : Int), ((0 : Int), (0 : Int)))) :: (((4 : Int), ((0 : Int), ((5 : Int), v34))) :: (((7 : Int), ((0 : Int), ((0 : Int), (0 : Int)))) :: ([] : List (Int × (Int × (Int × Int)))))))) fun x35 =>
              bif (decide ((List.length x35) ≤ (List.length x35))) then 
               some ((a1, (v34, a3)), (List.take (List.length x35) x35))
              else none
             else
              some ((a1, (v34, a3)), (((1 : Int), ((0 : Int), ((0 : Int), (0 : Int)))) :: (((4 : Int), ((0 : Int), ((5 : Int), v34))) :: ([] : List (Int × (Int × (Int × Int)))))))
            else
             some ((a1, (v34, a3)), (((1 : Int), ((0 : Int), ((0 : Int), (0 : Int)))) :: (((4 : Int), ((0 : Int), ((5 : Int), v34))) :: ([] : List (Int × (Int × (Int × Int)))))))
           else
            bif (decide (a4 = (5 : Int))) then
             bif (decide (a6 = (6 : Int))) then
              bif (!((decide ((7 : Int) = a1)) && ((decide ((0 : Int) = a2)) && (decide (a3 = a3))))) then
               bindO (some (((5 : Int), ((0 : Int), ((0 : Int), (0 : Int)))) :: (((7 : Int), ((0 : Int), ((0 : Int), (0 : Int)))) :: ([] : List (Int × (Int × (Int × Int))))))) fun x36 =>
               bif (decide ((List.length x36) ≤ (List.length x36))) then 
                some (((7 : Int), ((0 : Int), a3)), (List.take (List.length x36) x36))
               else none
              else
               some (((7 : Int), ((0 : Int), a3)), (((5 : Int), ((0 : Int), ((0 : Int), (0 : Int)))) :: ([] : List (Int × (Int × (Int × Int))))))
             else
              bif (decide (a4 = (6 : Int))) then
               bif (!((decide ((7 : Int) = a1)) && ((decide ((0 : Int) = a2)) && (decide (a3 = a3))))) then
                bindO (some (((6 : Int), ((0 : Int), ((0 : Int), (0 : Int)))) :: (((7 : Int), ((0 : Int), ((0 : Int), (0 : Int)))) :: ([] : List (Int × (Int × (Int × Int))))))) fun x37 =>
                bif (decide ((List.length x37) ≤ (List.length x37))) then 
                 some (((7 : Int), ((0 : Int), a3)), (List.take (List.length x37) x37))
                else none
               else
                some (((7 : Int), ((0 : Int), a3)), (((6 : Int), ((0 : Int), ((0 : Int), (0 : Int)))) :: ([] : List (Int × (Int × (Int × Int))))))
              else
               joinO (bif (decide (a4 = (2 : Int))) then
                 bif (decide (a5 ≥ (100 : Int))) then
                  some (Sum.inl (decide (a5 ≤ (199 : Int))))
                 else
                  some (Sum.inl Bool.false)
                else
                 some (Sum.inl Bool.false)) fun v38 =>
               bif v38 then
                bif (!((decide ((3 : Int) = a1)) && ((decide (a2 = a2)) && (decide (a3 = a3))))) then
                 some (((3 : Int), (a2, a3)), (((3 : Int), (a5, ((0 : Int), (0 : Int)))) :: ([] : List (Int × (Int × (Int × Int))))))
                else
                 some (((3 : Int), (a2, a3)), (((3 : Int), (a5, ((0 : Int), (0 : Int)))) :: ([] : List (Int × (Int × (Int × Int))))))
               else
                joinO (bif (decide (a4 = (2 : Int))) then
                  bif (decide (a5 ≥ (200 : Int))) then
                   some (Sum.inl (decide (a5 ≤ (699 : Int))))
                  else
                   some (Sum.inl Bool.false)
                 else
                  some (Sum.inl Bool.false)) fun v39 =>
                bif v39 then
                 bif (!((decide ((5 : Int) = a1)) && ((decide ((0 : Int) = a2)) && (decide (a5 = a3))))) then
                  some (((5 : Int), ((0 : Int), a5)), (((3 : Int), (a5, ((0 : Int), (0 : Int)))) :: (((4 : Int), ((0 : Int), ((11 : Int), (5000 : Int)))) :: ([] : List (Int × (Int × (Int × Int)))))))
                 else
                  some (((5 : Int), ((0 : Int), a5)), (((3 : Int), (a5, ((0 : Int), (0 : Int)))) :: (((4 : Int), ((0 : Int), ((11 : Int), (5000 : Int)))) :: ([] : List (Int × (Int × (Int × Int)))))))
                else
                 bif (!((decide (a1 = a1)) && ((decide (a2 = a2)) && (decide (a3 = a3))))) then
                  bif (decide (a1 = (7 : Int))) then
                   bindO (some (((7 : Int), ((0 : Int), ((0 : Int), (0 : Int)))) :: ([] : List (Int × (Int × (Int × Int)))))) fun x40 =>
                   bif (decide ((List.length x40) ≤ (List.length x40))) then 
                    some ((a1, (a2, a3)), (List.take (List.length x40) x40))
                   else none
                  else
                   some ((a1, (a2, a3)), ([] : List (Int × (Int × (Int × Int)))))
                 else
                  some ((a1, (a2, a3)), ([] : List (Int × (Int × (Int × Int)))))
            else
             bif (decide (a4 = (6 : Int))) then
              bif (!((decide ((7 : Int) = a1)) && ((decide ((0 : Int) = a2)) && (decide (a3 = a3))))) then
               bindO (some (((6 : Int), ((0 : Int), ((0 : Int), (0 : Int)))) :: (((7 : Int), ((0 : Int), ((0 : Int), (0 : Int)))) :: ([] : List (Int × (Int × (Int × Int))))))) fun x41 =>
               bif (decide ((List.length x41) ≤ (List.length x41))) then 
                some (((7 : Int), ((0 : Int), a3)), (List.take (List.length x41) x41))
               else none
              else
               some (((7 : Int), ((0 : Int), a3)), (((6 : Int), ((0 : Int), ((0 : Int), (0 : Int)))) :: ([] : List (Int × (Int × (Int × Int))))))
             else
              joinO (bif (decide (a4 = (2 : Int))) then
                bif (decide (a5 ≥ (100 : Int))) then
                 some (Sum.inl (decide (a5 ≤ (199 : Int))))
                else
                 some (Sum.inl Bool.false)
               else
                some (Sum.inl Bool.false)) fun v42 =>
              bif v42 then
               bif (!((decide ((3 : Int) = a1)) && ((decide (a2 = a2)) && (decide (a3 = a3))))) then
                some (((3 : Int), (a2, a3)), (((3 : Int), (a5, ((0 : Int), (0 : Int)))) :: ([] : List (Int × (Int × (Int × Int))))))
               else
                some (((3 : Int), (a2, a3)), (((3 : Int), (a5, ((0 : Int), (0 : Int)))) :: ([] : List (Int × (Int × (Int × Int))))))
              else
               joinO (bif (decide (a4 = (2 : Int))) then
                 bif (decide (a5 ≥ (200 : Int))) then
                  some (Sum.inl (decide (a5 ≤ (699 : Int))))
                 else
                  some (Sum.inl Bool.false)
                else
                 some (Sum.inl Bool.false)) fun v43 =>
               bif v43 then
                bif (!((decide ((5 : Int) = a1)) && ((decide ((0 : Int) = a2)) && (decide (a5 = a3))))) then
                 some (((5 : Int), ((0 : Int), a5)), (((3 : Int), (a5, ((0 : Int), (0 : Int)))) :: (((4 : Int), ((0 : Int), ((11 : Int), (5000 : Int)))) :: ([] : List (Int × (Int × (Int × Int)))))))
                else
                 some (((5 : Int), ((0 : Int), a5)), (((3 : Int), (a5, ((0 : Int), (0 : Int)))) :: (((4 : Int), ((0 : Int), ((11 : Int), (5000 : Int)))) :: ([] : List (Int × (Int × (Int × Int)))))))
               else
                bif (!((decide (a1 = a1)) && ((decide (a2 = a2)) && (decide (a3 = a3))))) then
                 bif (decide (a1 = (7 : Int))) then
                  bindO (some (((7 : Int), ((0 : Int), ((0 : Int), (0 : Int)))) :: ([] : List (Int × (Int × (Int × Int)))))) fun x44 =>
                  bif (decide ((List.length x44) ≤ (List.length x44))) then 
                   some ((a1, (a2, a3)), (List.take (List.length x44) x44))
                  else none
                 else
                  some ((a1, (a2, a3)), ([] : List (Int × (Int × (Int × Int)))))
                else
                 some ((a1, (a2, a3)), ([] : List (Int × (Int × (Int × Int)))))
          else
           bif (decide (a4 = (5 : Int))) then
            bif (decide (a6 = (6 : Int))) then
             bif (!((decide ((7 : Int) = a1)) && ((decide ((0 : Int) = a2)) && (decide (a3 = a3))))) then
              bindO (some (((5 : Int), ((0 : Int), ((0 : Int), (0 : Int)))) :: (((7 : Int), ((0 : Int), ((0 : Int), (0 : Int)))) :: ([] : List (Int × (Int × (Int × Int))))))) fun x45 =>
              bif (decide ((List.length x45) ≤ (List.length x45))) then 
               some (((7 : Int), ((0 : Int), a3)), (List.take (List.length x45) x45))
              else none
             else
              some (((7 : Int), ((0 : Int), a3)), (((5 : Int), ((0 : Int), ((0 : Int), (0 : Int)))) :: ([] : List (Int × (Int × (Int × Int))))))
            else
             bif (decide (a4 = (6 : Int))) then
              bif (!((decide ((7 : Int) = a1)) && ((decide ((0 : Int) = a2)) && (decide (a3 = a3))))) then
               bindO (some (((6 : Int), ((0 : Int), ((0 : Int), (0 : Int)))) :: (((7 : Int), ((0 : Int), ((0 : Int), (0 : Int)))) :: ([] : List (Int × (Int × (Int × Int))))))) fun x46 =>
               bif (decide ((List.length x46) ≤ (List.length x46))) then 
                some (((7 : Int), ((0 : Int), a3)), (List.take (List.length x46) x46))
               else none
              else
               some (((7 : Int), ((0 : Int), a3)), (((6 : Int), ((0 : Int), ((0 : Int), (0 : Int)))) :: ([] : List (Int × (Int × (Int × Int))))))
             else
              joinO (bif (decide (a4 = (2 : Int))) then
                bif (decide (a5 ≥ (100 : Int))) then
                 some (Sum.inl (decide (a5 ≤ (199 : Int))))
                else
                 some (Sum.inl Bool.false)
               else
                some (Sum.inl Bool.false)) fun v47 =>
              bif v47 then
               bif (!((decide ((3 : Int) = a1)) && ((decide (a2 = a2)) && (decide (a3 = a3))))) then
                some (((3 : Int), (a2, a3)), (((3 : Int), (a5, ((0 : Int), (0 : Int)))) :: ([] : List (Int × (Int × (Int × Int))))))
               else
                some (((3 : Int), (a2, a3)), (((3 : Int), (a5, ((0 : Int), (0 : Int)))) :: ([] : List (Int × (Int × (Int × Int))))))
              else
               joinO (bif (decide (a4 = (2 : Int))) then
                 bif (decide (a5 ≥ (200 : Int))) then
                  some (Sum.inl (decide (a5 ≤ (699 : Int))))
                 else
                  some (Sum.inl Bool.false)
                else
                 some (Sum.inl Bool.false)) fun v48 =>
               bif v48 then
                bif (!((decide ((5 : Int) = a1)) && ((decide ((0 : Int) = a2)) && (decide (a5 = a3))))) then
                 some (((5 : Int), ((0 : Int), a5)), (((3 : Int), (a5, ((0 : Int), (0 : Int)))) :: (((4 : Int), ((0 : Int), ((11 : Int), (5000 : Int)))) :: ([] : List (Int × (Int × (Int × Int)))))))
                else
                 some (((5 : Int), ((0 : Int), a5)), (((3 : Int), (a5, ((0 : Int), (0 : Int)))) :: (((4 : Int), ((0 : Int), ((11 : Int), (5000 : Int)))) :: ([] : List (Int × (Int × (Int × Int)))))))
               else
                bif (!((decide (a1 = a1)) && ((decide (a2 = a2)) && (decide (a3 = a3))))) then
                 bif (decide (a1 = (7 : Int))) then
                  bindO (some (((7 : Int), ((0 : Int), ((0 : Int), (0 : Int)))) :: ([] : List (Int × (Int × (Int × Int)))))) fun x49 =>
                  bif (decide ((List.length x49) ≤ (List.length x49))) then 
                   some ((a1, (a2, a3)), (List.take (List.length x49) x49))
                  else none
                 else
                  some ((a1, (a2, a3)), ([] : List (Int × (Int × (Int × Int)))))
                else
                 some ((a1, (a2, a3)), ([] : List (Int × (Int × (Int × Int)))))
           else
            bif (decide (a4 = (6 : Int))) then
             bif (!((decide ((7 : Int) = a1)) && ((decide ((0 : Int) = a2)) && (decide (a3 = a3))))) then
              bindO (some (((6 : Int), ((0 : Int), ((0 : Int), (0 : Int)))) :: (((7 : Int), ((0 : Int), ((0 : Int), (0 : Int)))) :: ([] : List (Int × (Int × (Int × Int))))))) fun x50 =>
              bif (decide ((List.length x50) ≤ (List.length x50))) then 
               some (((7 : Int), ((0 : Int), a3)), (List.take (List.length x50) x50))
              else none
             else
              some (((7 : Int), ((0 : Int), a3)), (((6 : Int), ((0 : Int), ((0 : Int), (0 : Int)))) :: ([] : List (Int × (Int × (Int × Int))))))
            else
             joinO (bif (decide (a4 = (2 : Int))) then
               bif (decide (a5 ≥ (100 : Int))) then
                some (Sum.inl (decide (a5 ≤ (199 : Int))))
               else
                some (Sum.inl Bool.false)
              else
               some (Sum.inl Bool.false)) fun v51 =>
             bif v51 then
              bif (!((decide ((3 : Int) = a1)) && ((decide (a2 = a2)) && (decide (a3 = a3))))) then
               some (((3 : Int), (a2, a3)), (((3 : Int), (a5, ((0 : Int), (0 : Int)))) :: ([] : List (Int × (Int × (Int × Int))))))
              else
               some (((3 : Int), (a2, a3)), (((3 : Int), (a5, ((0 : Int), (0 : Int)))) :: ([] : List (Int × (Int × (Int × Int))))))
             else
              joinO (bif (decide (a4 = (2 : Int))) then
                bif (decide (a5 ≥ (200 : Int))) then
                 some (Sum.inl (decide (a5 ≤ (699 : Int))))
                else
                 some (Sum.inl Bool.false)
               else
                some (Sum.inl Bool.false)) fun v52 =>
              bif v52 then
               bif (!((decide ((5 : Int) = a1)) && ((decide ((0 : Int) = a2)) && (decide (a5 = a3))))) then
                some (((5 : Int), ((0 : Int), a5)), (((3 : Int), (a5, ((0 : Int), (0 : Int)))) :: (((4 : Int), ((0 : Int), ((11 : Int), (5000 : Int)))) :: ([] : List (Int × (Int × (Int × Int)))))))
               else
                some (((5 : Int), ((0 : Int), a5)), (((3 : Int), (a5, ((0 : Int), (0 : Int)))) :: (((4 : Int), ((0 : Int), ((11 : Int), (5000 : Int)))) :: ([] : List (Int × (Int × (Int × Int)))))))
              else
               bif (!((decide (a1 = a1)) && ((decide (a2 = a2)) && (decide (a3 = a3))))) then
                bif (decide (a1 = (7 : Int))) then
                 bindO (some (((7 : Int), ((0 : Int), ((0 : Int), (0 : Int)))) :: ([] : List (Int × (Int × (Int × Int)))))) fun x53 =>
                 bif (decide ((List.length x53) ≤ (List.length x53))) then 
                  some ((a1, (a2, a3)), (List.take (List.length x53) x53))
                 else none
                else
                 some ((a1, (a2, a3)), ([] : List (Int × (Int × (Int × Int)))))
               else
                some ((a1, (a2, a3)), ([] : List (Int × (Int × (Int × Int)))))
         else
          bif (decide ((Int.toNat a1) = 1)) then
           none 
          else
           bif (decide ((Int.toNat a1) = 0)) then
            none 
           else
            none 
   else none
theorem client_Step_le (x : _) : LeO (client_Step_F x) (client_Step x) := fun r h => h
def Copies_F (q : Int → Bool) : Option Int :=
  joinO (loopF (fun (v2, (v3, v4)) =>
    bif (!(q v3)) then
     outO (some (Sum.inl v4))
    else
     bif (decide (v3 ≥ (32000 : Int))) then
      outO (some (Sum.inl v4))
     else
      some (Sum.inl ((minA (Go.IntKind.wrap .i64 ((2 : Int) * v2)) (4000 : Int)), ((Go.IntKind.wrap .i64 (v3 + v2)), (Go.IntKind.wrap .i64 (v4 + (1 : Int))))))) 1000 ((500 : Int), ((0 : Int), (0 : Int)))) fun v8 =>
  some v8
theorem Copies_le (a1 : Int) (q : Int → Bool) (hq : ∀ x, q x = decide (x ≤ a1)) : LeO (Copies_F q) (client_Copies a1) := by
  have hq2 : ∀ x : Int, (!(q x)) = decide (x > a1) := fun x => by rw [hq]; by_cases h : x ≤ a1 <;> simp [h] <;> omega
  unfold Copies_F client_Copies; simp only [hq2]
  repeat' (first | (with_reducible first | exact LeO.refl _ | apply LeO.bind | apply LeO.join | apply LeO.out | apply LeO.cond | apply LeO.loop) | intro _)
end Go.Proofs.Ytohhpcggahlpjaa
