/- ClientAlone: printed by mk4.py. -/
import Derived.Test.YtohhpcggahlpjaaY2
import Derived.Test.YtohhpcggahlpjaaZ2
set_option linter.unusedVariables false
set_option maxRecDepth 1000000
set_option maxHeartbeats 0
namespace Go.Proofs.Ytohhpcggahlpjaa
open Go.RowKit
def client_Start_F : PUnit → Option ((Int × (Int × Int)) × (List (Int × (Int × (Int × Int))))) := fun _ =>
  some (((2 : Int), ((500 : Int), (0 : Int))), (((1 : Int), ((0 : Int), ((0 : Int), (0 : Int)))) :: (((4 : Int), ((0 : Int), ((5 : Int), (500 : Int)))) :: (((4 : Int), ((0 : Int), ((6 : Int), (32000 : Int)))) :: ([] : List (Int × (Int × (Int × Int))))))))
theorem client_Start_le (x : _) : LeO (client_Start_F x) (client_Start x) := fun r h => h
def client_May_F : (Int × (Int × Int)) → Option Bool := fun (a1, (a2, a3)) =>
  joinO (bif (decide (a1 = (2 : Int))) then
    some (Sum.inl Bool.true)
   else
    some (Sum.inl (decide (a1 = (3 : Int))))) fun v4 =>
  bif v4 then
   bif (decide (a3 = (0 : Int))) then
    bif (decide (a2 = (500 : Int))) then
     some Bool.true
    else
     bif (decide (a2 = (1000 : Int))) then
      some Bool.true
     else
      bif (decide (a2 = (2000 : Int))) then
       some Bool.true
      else
       some (decide (a2 = (4000 : Int)))
   else
    some Bool.false
  else
   bif (decide (a1 = (5 : Int))) then
    bif (decide (a2 = (0 : Int))) then
     bif (decide (a3 ≥ (200 : Int))) then
      some (decide (a3 ≤ (699 : Int)))
     else
      some Bool.false
    else
     some Bool.false
   else
    bif (decide (a1 = (7 : Int))) then
     bif (decide (a2 = (0 : Int))) then
      bif (decide (a3 = (0 : Int))) then
       some Bool.true
      else
       bif (decide (a3 ≥ (200 : Int))) then
        some (decide (a3 ≤ (699 : Int)))
       else
        some Bool.false
     else
      some Bool.false
    else
     some Bool.false
theorem client_May_le (x : _) : LeO (client_May_F x) (client_May x) := fun r h => h
def client_Step_F : ((Int × (Int × Int)) × (Int × (Int × Int))) → Option ((Int × (Int × Int)) × (List (Int × (Int × (Int × Int))))) := fun ((a1, (a2, a3)), (a4, (a5, a6))) =>
  bindO (client_May_F (a1, (a2, a3))) fun x7 =>
  bif (!x7) then
   some (((0 : Int), ((0 : Int), (0 : Int))), ([] : List (Int × (Int × (Int × Int)))))
  else
   bif (decide (((0 : Int) ≤ a1) ∧ (a1 < (8 : Int)))) then 
    bif (decide ((Int.toNat a1) = 7)) then
     bif (!((decide (a1 = a1)) && ((decide (a2 = a2)) && (decide (a3 = a3))))) then
      bif (decide (a1 = (7 : Int))) then
       bindO (some (((7 : Int), ((0 : Int), ((0 : Int), (0 : Int)))) :: ([] : List (Int × (Int × (Int × Int)))))) fun x8 =>
       bif (decide ((List.length x8) ≤ (List.length x8))) then 
        some ((a1, (a2, a3)), (List.take (List.length x8) x8))
       else none
      else
       some ((a1, (a2, a3)), ([] : List (Int × (Int × (Int × Int)))))
     else
      some ((a1, (a2, a3)), ([] : List (Int × (Int × (Int × Int)))))
    else
     bif (decide ((Int.toNat a1) = 6)) then
      none /- "call of what" -/
     else
      bif (decide ((Int.toNat a1) = 5)) then
       bif (decide (a4 = (5 : Int))) then
        bif (decide (a6 = (11 : Int))) then
         bif (!((decide ((7 : Int) = a1)) && ((decide ((0 : Int) = a2)) && (decide (a3 = a3))))) then
          bindO (some (((7 : Int), ((0 : Int), ((0 : Int), (0 : Int)))) :: ([] : List (Int × (Int × (Int × Int)))))) fun x9 =>
          bif (decide ((List.length x9) ≤ (List.length x9))) then 
           some (((7 : Int), ((0 : Int), a3)), (List.take (List.length x9) x9))
          else none
         else
          some (((7 : Int), ((0 : Int), a3)), ([] : List (Int × (Int × (Int × Int)))))
        else
         bif (!((decide (a1 = a1)) && ((decide (a2 = a2)) && (decide (a3 = a3))))) then
          bif (decide (a1 = (7 : Int))) then
           bindO (some (((7 : Int), ((0 : Int), ((0 : Int), (0 : Int)))) :: ([] : List (Int × (Int × (Int × Int)))))) fun x10 =>
           bif (decide ((List.length x10) ≤ (List.length x10))) then 
            some ((a1, (a2, a3)), (List.take (List.length x10) x10))
           else none
          else
           some ((a1, (a2, a3)), ([] : List (Int × (Int × (Int × Int)))))
         else
          some ((a1, (a2, a3)), ([] : List (Int × (Int × (Int × Int)))))
       else
        bif (!((decide (a1 = a1)) && ((decide (a2 = a2)) && (decide (a3 = a3))))) then
         bif (decide (a1 = (7 : Int))) then
          bindO (some (((7 : Int), ((0 : Int), ((0 : Int), (0 : Int)))) :: ([] : List (Int × (Int × (Int × Int)))))) fun x11 =>
          bif (decide ((List.length x11) ≤ (List.length x11))) then 
           some ((a1, (a2, a3)), (List.take (List.length x11) x11))
          else none
         else
          some ((a1, (a2, a3)), ([] : List (Int × (Int × (Int × Int)))))
        else
         some ((a1, (a2, a3)), ([] : List (Int × (Int × (Int × Int)))))
      else
       bif (decide ((Int.toNat a1) = 4)) then
        none /- "call of what" -/
       else
        bif (decide ((Int.toNat a1) = 3)) then
         bif (decide (a4 = (5 : Int))) then
          bif (decide (a6 = (5 : Int))) then
           joinO (bif (decide (a1 = (2 : Int))) then
             some (Sum.inl (minA (Go.IntKind.wrap .i64 ((2 : Int) * a2)) (4000 : Int)))
            else
             some (Sum.inl (4000 : Int))) fun v13 =>
           bif (!((decide (a1 = a1)) && ((decide (v13 = a2)) && (decide (a3 = a3))))) then
            bif (decide (a1 = (7 : Int))) then
             bindO (some (((1 : Int), ((0 : Int), ((0 : Int), (0 : Int)))) :: (((4 : Int), ((0 : Int), ((5 : Int), v13))) :: (((7 : Int), ((0 : Int), ((0 : Int), (0 : Int)))) :: ([] : List (Int × (Int × (Int × Int)))))))) fun x14 =>
             bif (decide ((List.length x14) ≤ (List.length x14))) then 
              some ((a1, (v13, a3)), (List.take (List.length x14) x14))
             else none
            else
             some ((a1, (v13, a3)), (((1 : Int), ((0 : Int), ((0 : Int), (0 : Int)))) :: (((4 : Int), ((0 : Int), ((5 : Int), v13))) :: ([] : List (Int × (Int × (Int × Int)))))))
           else
            some ((a1, (v13, a3)), (((1 : Int), ((0 : Int), ((0 : Int), (0 : Int)))) :: (((4 : Int), ((0 : Int), ((5 : Int), v13))) :: ([] : List (Int × (Int × (Int × Int)))))))
          else
           bif (decide (a4 = (5 : Int))) then
            bif (decide (a6 = (6 : Int))) then
             bif (!((decide ((7 : Int) = a1)) && ((decide ((0 : Int) = a2)) && (decide (a3 = a3))))) then
              bindO (some (((5 : Int), ((0 : Int), ((0 : Int), (0 : Int)))) :: (((7 : Int), ((0 : Int), ((0 : Int), (0 : Int)))) :: ([] : List (Int × (Int × (Int × Int))))))) fun x15 =>
              bif (decide ((List.length x15) ≤ (List.length x15))) then 
               some (((7 : Int), ((0 : Int), a3)), (List.take (List.length x15) x15))
              else none
             else
              some (((7 : Int), ((0 : Int), a3)), (((5 : Int), ((0 : Int), ((0 : Int), (0 : Int)))) :: ([] : List (Int × (Int × (Int × Int))))))
            else
             bif (decide (a4 = (6 : Int))) then
              bif (!((decide ((7 : Int) = a1)) && ((decide ((0 : Int) = a2)) && (decide (a3 = a3))))) then
               bindO (some (((6 : Int), ((0 : Int), ((0 : Int), (0 : Int)))) :: (((7 : Int), ((0 : Int), ((0 : Int), (0 : Int)))) :: ([] : List (Int × (Int × (Int × Int))))))) fun x16 =>
               bif (decide ((List.length x16) ≤ (List.length x16))) then 
                some (((7 : Int), ((0 : Int), a3)), (List.take (List.length x16) x16))
               else none
              else
               some (((7 : Int), ((0 : Int), a3)), (((6 : Int), ((0 : Int), ((0 : Int), (0 : Int)))) :: ([] : List (Int × (Int × (Int × Int))))))
             else
              joinO (bif (decide (a4 = (2 : Int))) then
                bif (decide (a5 ≥ (100 : Int))) then
                 some (Sum.inl ())
                else
                 some (Sum.inl ())
               else
                some (Sum.inl ())) fun _ =>
              none /- [22344386578255678369549818538661533465183745] "cond" -/
           else
            bif (decide (a4 = (6 : Int))) then
             bif (!((decide ((7 : Int) = a1)) && ((decide ((0 : Int) = a2)) && (decide (a3 = a3))))) then
              bindO (some (((6 : Int), ((0 : Int), ((0 : Int), (0 : Int)))) :: (((7 : Int), ((0 : Int), ((0 : Int), (0 : Int)))) :: ([] : List (Int × (Int × (Int × Int))))))) fun x17 =>
              bif (decide ((List.length x17) ≤ (List.length x17))) then 
               some (((7 : Int), ((0 : Int), a3)), (List.take (List.length x17) x17))
              else none
             else
              some (((7 : Int), ((0 : Int), a3)), (((6 : Int), ((0 : Int), ((0 : Int), (0 : Int)))) :: ([] : List (Int × (Int × (Int × Int))))))
            else
             joinO (bif (decide (a4 = (2 : Int))) then
               bif (decide (a5 ≥ (100 : Int))) then
                some (Sum.inl ())
               else
                some (Sum.inl ())
              else
               some (Sum.inl ())) fun _ =>
             none /- [22344386578255678369549818538661533465183745] "cond" -/
         else
          bif (decide (a4 = (5 : Int))) then
           bif (decide (a6 = (6 : Int))) then
            bif (!((decide ((7 : Int) = a1)) && ((decide ((0 : Int) = a2)) && (decide (a3 = a3))))) then
             bindO (some (((5 : Int), ((0 : Int), ((0 : Int), (0 : Int)))) :: (((7 : Int), ((0 : Int), ((0 : Int), (0 : Int)))) :: ([] : List (Int × (Int × (Int × Int))))))) fun x18 =>
             bif (decide ((List.length x18) ≤ (List.length x18))) then 
              some (((7 : Int), ((0 : Int), a3)), (List.take (List.length x18) x18))
             else none
            else
             some (((7 : Int), ((0 : Int), a3)), (((5 : Int), ((0 : Int), ((0 : Int), (0 : Int)))) :: ([] : List (Int × (Int × (Int × Int))))))
           else
            bif (decide (a4 = (6 : Int))) then
             bif (!((decide ((7 : Int) = a1)) && ((decide ((0 : Int) = a2)) && (decide (a3 = a3))))) then
              bindO (some (((6 : Int), ((0 : Int), ((0 : Int), (0 : Int)))) :: (((7 : Int), ((0 : Int), ((0 : Int), (0 : Int)))) :: ([] : List (Int × (Int × (Int × Int))))))) fun x19 =>
              bif (decide ((List.length x19) ≤ (List.length x19))) then 
               some (((7 : Int), ((0 : Int), a3)), (List.take (List.length x19) x19))
              else none
             else
              some (((7 : Int), ((0 : Int), a3)), (((6 : Int), ((0 : Int), ((0 : Int), (0 : Int)))) :: ([] : List (Int × (Int × (Int × Int))))))
            else
             joinO (bif (decide (a4 = (2 : Int))) then
               bif (decide (a5 ≥ (100 : Int))) then
                some (Sum.inl ())
               else
                some (Sum.inl ())
              else
               some (Sum.inl ())) fun _ =>
             none /- [22344386578255678369549818538661533465183745] "cond" -/
          else
           bif (decide (a4 = (6 : Int))) then
            bif (!((decide ((7 : Int) = a1)) && ((decide ((0 : Int) = a2)) && (decide (a3 = a3))))) then
             bindO (some (((6 : Int), ((0 : Int), ((0 : Int), (0 : Int)))) :: (((7 : Int), ((0 : Int), ((0 : Int), (0 : Int)))) :: ([] : List (Int × (Int × (Int × Int))))))) fun x20 =>
             bif (decide ((List.length x20) ≤ (List.length x20))) then 
              some (((7 : Int), ((0 : Int), a3)), (List.take (List.length x20) x20))
             else none
            else
             some (((7 : Int), ((0 : Int), a3)), (((6 : Int), ((0 : Int), ((0 : Int), (0 : Int)))) :: ([] : List (Int × (Int × (Int × Int))))))
           else
            joinO (bif (decide (a4 = (2 : Int))) then
              bif (decide (a5 ≥ (100 : Int))) then
               some (Sum.inl ())
              else
               some (Sum.inl ())
             else
              some (Sum.inl ())) fun _ =>
            none /- [22344386578255678369549818538661533465183745] "cond" -/
        else
         bif (decide ((Int.toNat a1) = 2)) then
          bif (decide (a4 = (5 : Int))) then
           bif (decide (a6 = (5 : Int))) then
            joinO (bif (decide (a1 = (2 : Int))) then
              some (Sum.inl (minA (Go.IntKind.wrap .i64 ((2 : Int) * a2)) (4000 : Int)))
             else
              some (Sum.inl (4000 : Int))) fun v22 =>
            bif (!((decide (a1 = a1)) && ((decide (v22 = a2)) && (decide (a3 = a3))))) then
             bif (decide (a1 = (7 : Int))) then
              bindO (some (((1 : Int), ((0 : Int), ((0 : Int), (0 : Int)))) :: (((4 : Int), ((0 : Int), ((5 : Int), v22))) :: (((7 : Int), ((0 : Int), ((0 : Int), (0 : Int)))) :: ([] : List (Int × (Int × (Int × Int)))))))) fun x23 =>
              bif (decide ((List.length x23) ≤ (List.length x23))) then 
               some ((a1, (v22, a3)), (List.take (List.length x23) x23))
              else none
             else
              some ((a1, (v22, a3)), (((1 : Int), ((0 : Int), ((0 : Int), (0 : Int)))) :: (((4 : Int), ((0 : Int), ((5 : Int), v22))) :: ([] : List (Int × (Int × (Int × Int)))))))
            else
             some ((a1, (v22, a3)), (((1 : Int), ((0 : Int), ((0 : Int), (0 : Int)))) :: (((4 : Int), ((0 : Int), ((5 : Int), v22))) :: ([] : List (Int × (Int × (Int × Int)))))))
           else
            bif (decide (a4 = (5 : Int))) then
             bif (decide (a6 = (6 : Int))) then
              bif (!((decide ((7 : Int) = a1)) && ((decide ((0 : Int) = a2)) && (decide (a3 = a3))))) then
               bindO (some (((5 : Int), ((0 : Int), ((0 : Int), (0 : Int)))) :: (((7 : Int), ((0 : Int), ((0 : Int), (0 : Int)))) :: ([] : List (Int × (Int × (Int × Int))))))) fun x24 =>
               bif (decide ((List.length x24) ≤ (List.length x24))) then 
                some (((7 : Int), ((0 : Int), a3)), (List.take (List.length x24) x24))
               else none
              else
               some (((7 : Int), ((0 : Int), a3)), (((5 : Int), ((0 : Int), ((0 : Int), (0 : Int)))) :: ([] : List (Int × (Int × (Int × Int))))))
             else
              bif (decide (a4 = (6 : Int))) then
               bif (!((decide ((7 : Int) = a1)) && ((decide ((0 : Int) = a2)) && (decide (a3 = a3))))) then
                bindO (some (((6 : Int), ((0 : Int), ((0 : Int), (0 : Int)))) :: (((7 : Int), ((0 : Int), ((0 : Int), (0 : Int)))) :: ([] : List (Int × (Int × (Int × Int))))))) fun x25 =>
                bif (decide ((List.length x25) ≤ (List.length x25))) then 
                 some (((7 : Int), ((0 : Int), a3)), (List.take (List.length x25) x25))
                else none
               else
                some (((7 : Int), ((0 : Int), a3)), (((6 : Int), ((0 : Int), ((0 : Int), (0 : Int)))) :: ([] : List (Int × (Int × (Int × Int))))))
              else
               joinO (bif (decide (a4 = (2 : Int))) then
                 bif (decide (a5 ≥ (100 : Int))) then
                  some (Sum.inl ())
                 else
                  some (Sum.inl ())
                else
                 some (Sum.inl ())) fun _ =>
               none /- [22344386578255678369549818538661533465183745] "cond" -/
            else
             bif (decide (a4 = (6 : Int))) then
              bif (!((decide ((7 : Int) = a1)) && ((decide ((0 : Int) = a2)) && (decide (a3 = a3))))) then
               bindO (some (((6 : Int), ((0 : Int), ((0 : Int), (0 : Int)))) :: (((7 : Int), ((0 : Int), ((0 : Int), (0 : Int)))) :: ([] : List (Int × (Int × (Int × Int))))))) fun x26 =>
               bif (decide ((List.length x26) ≤ (List.length x26))) then 
                some (((7 : Int), ((0 : Int), a3)), (List.take (List.length x26) x26))
               else none
              else
               some (((7 : Int), ((0 : Int), a3)), (((6 : Int), ((0 : Int), ((0 : Int), (0 : Int)))) :: ([] : List (Int × (Int × (Int × Int))))))
             else
              joinO (bif (decide (a4 = (2 : Int))) then
                bif (decide (a5 ≥ (100 : Int))) then
                 some (Sum.inl ())
                else
                 some (Sum.inl ())
               else
                some (Sum.inl ())) fun _ =>
              none /- [22344386578255678369549818538661533465183745] "cond" -/
          else
           bif (decide (a4 = (5 : Int))) then
            bif (decide (a6 = (6 : Int))) then
             bif (!((decide ((7 : Int) = a1)) && ((decide ((0 : Int) = a2)) && (decide (a3 = a3))))) then
              bindO (some (((5 : Int), ((0 : Int), ((0 : Int), (0 : Int)))) :: (((7 : Int), ((0 : Int), ((0 : Int), (0 : Int)))) :: ([] : List (Int × (Int × (Int × Int))))))) fun x27 =>
              bif (decide ((List.length x27) ≤ (List.length x27))) then 
               some (((7 : Int), ((0 : Int), a3)), (List.take (List.length x27) x27))
              else none
             else
              some (((7 : Int), ((0 : Int), a3)), (((5 : Int), ((0 : Int), ((0 : Int), (0 : Int)))) :: ([] : List (Int × (Int × (Int × Int))))))
            else
             bif (decide (a4 = (6 : Int))) then
              bif (!((decide ((7 : Int) = a1)) && ((decide ((0 : Int) = a2)) && (decide (a3 = a3))))) then
               bindO (some (((6 : Int), ((0 : Int), ((0 : Int), (0 : Int)))) :: (((7 : Int), ((0 : Int), ((0 : Int), (0 : Int)))) :: ([] : List (Int × (Int × (Int × Int))))))) fun x28 =>
               bif (decide ((List.length x28) ≤ (List.length x28))) then 
                some (((7 : Int), ((0 : Int), a3)), (List.take (List.length x28) x28))
               else none
              else
               some (((7 : Int), ((0 : Int), a3)), (((6 : Int), ((0 : Int), ((0 : Int), (0 : Int)))) :: ([] : List (Int × (Int × (Int × Int))))))
             else
              joinO (bif (decide (a4 = (2 : Int))) then
                bif (decide (a5 ≥ (100 : Int))) then
                 some (Sum.inl ())
                else
                 some (Sum.inl ())
               else
                some (Sum.inl ())) fun _ =>
              none /- [22344386578255678369549818538661533465183745] "cond" -/
           else
            bif (decide (a4 = (6 : Int))) then
             bif (!((decide ((7 : Int) = a1)) && ((decide ((0 : Int) = a2)) && (decide (a3 = a3))))) then
              bindO (some (((6 : Int), ((0 : Int), ((0 : Int), (0 : Int)))) :: (((7 : Int), ((0 : Int), ((0 : Int), (0 : Int)))) :: ([] : List (Int × (Int × (Int × Int))))))) fun x29 =>
              bif (decide ((List.length x29) ≤ (List.length x29))) then 
               some (((7 : Int), ((0 : Int), a3)), (List.take (List.length x29) x29))
              else none
             else
              some (((7 : Int), ((0 : Int), a3)), (((6 : Int), ((0 : Int), ((0 : Int), (0 : Int)))) :: ([] : List (Int × (Int × (Int × Int))))))
            else
             joinO (bif (decide (a4 = (2 : Int))) then
               bif (decide (a5 ≥ (100 : Int))) then
                some (Sum.inl ())
               else
                some (Sum.inl ())
              else
               some (Sum.inl ())) fun _ =>
             none /- [22344386578255678369549818538661533465183745] "cond" -/
         else
          bif (decide ((Int.toNat a1) = 1)) then
           none /- "call of what" -/
          else
           bif (decide ((Int.toNat a1) = 0)) then
            none /- "call of what" -/
           else
            none /- "load: index" -/
   else none
theorem client_Step_le (x : _) : LeO (client_Step_F x) (client_Step x) := fun r h => h
def Copies_F (q : Int → Bool) : Option Int :=
  joinO (loopF (fun (v2, (v3, v4)) =>
    bif (!(q v3)) then
     outO (some (Sum.inl v4))
    else
     bif (decide (v3 ≥ (32000 : Int))) then
      outO (some (Sum.inl v4))
     else
      some (Sum.inl ((minA (Go.IntKind.wrap .i64 ((2 : Int) * v2)) (4000 : Int)), ((Go.IntKind.wrap .i64 (v3 + v2)), (Go.IntKind.wrap .i64 (v4 + (1 : Int))))))) 1000 ((500 : Int), ((0 : Int), (0 : Int)))) fun v8 =>
  some v8
theorem Copies_le (a1 : Int) (q : Int → Bool) (hq : ∀ x, q x = decide (x ≤ a1)) : LeO (Copies_F q) (client_Copies a1) := by
  have hq2 : ∀ x : Int, (!(q x)) = decide (x > a1) := fun x => by rw [hq]; by_cases h : x ≤ a1 <;> simp [h] <;> omega
  unfold Copies_F client_Copies; simp only [hq2]
  repeat' (first | (with_reducible first | exact LeO.refl _ | apply LeO.bind | apply LeO.join | apply LeO.out | apply LeO.cond | apply LeO.loop) | intro _)
noncomputable def alonePre (a1 : Int) (K : Int × (Int × (Int × (Int × (Int × (Int × (Int × (Int × (Int × (Int × (Int × (Int × (Int × (Int × (Int × (Int × (Int × (Int × List (Int × (Int × (Int × (Int × Int))))))))))))))))))))) → Option Bool) : Option Bool :=
  joinO (loopO (fun (v2, (v3, (v4, (v5, (v6, (v7, (v8, (v9, (v10, (v11, (v12, (v13, (v14, (v15, (v16, (v17, (v18, (v19, v20)))))))))))))))))) =>
    bif (decide (v2 < (14 : Int))) then
     bif (decide (((0 : Int) ≤ v2) ∧ (v2 < (14 : Int)))) then 
      bif (decide ((((Int.toNat v2) * 1) + 1) ≤ 15)) then 
       bindO (some (putL (v6 :: (v7 :: (v8 :: (v9 :: (v10 :: (v11 :: (v12 :: (v13 :: (v14 :: (v15 :: (v16 :: (v17 :: (v18 :: (v19 :: (v20 :: ([] : List Int)))))))))))))))) ((Int.toNat v2) * 1) ((-1 : Int) :: ([] : List Int)))) fun x21 =>
       some (Sum.inl ((Go.IntKind.wrap .i64 (v2 + (1 : Int))), (v3, (v4, (v5, ((List.getD x21 0 (0 : Int)), ((List.getD x21 1 (0 : Int)), ((List.getD x21 2 (0 : Int)), ((List.getD x21 3 (0 : Int)), ((List.getD x21 4 (0 : Int)), ((List.getD x21 5 (0 : Int)), ((List.getD x21 6 (0 : Int)), ((List.getD x21 7 (0 : Int)), ((List.getD x21 8 (0 : Int)), ((List.getD x21 9 (0 : Int)), ((List.getD x21 10 (0 : Int)), ((List.getD x21 11 (0 : Int)), ((List.getD x21 12 (0 : Int)), ((List.getD x21 13 (0 : Int)), (List.getD x21 14 (0 : Int)))))))))))))))))))))
      else none
     else none
    else
     outO (some (Sum.inl (v3, (v4, (v5, (v6, (v7, (v8, (v9, (v10, (v11, (v12, (v13, (v14, (v15, (v16, (v17, (v18, (v19, v20)))))))))))))))))))) ((0 : Int), ((0 : Int), ((0 : Int), ((0 : Int), ((0 : Int), ((0 : Int), ((0 : Int), ((0 : Int), ((0 : Int), ((0 : Int), ((0 : Int), ((0 : Int), ((0 : Int), ((0 : Int), ((0 : Int), ((0 : Int), ((0 : Int), ((0 : Int), (0 : Int)))))))))))))))))))) fun (v23, (v24, (v25, (v26, (v27, (v28, (v29, (v30, (v31, (v32, (v33, (v34, (v35, (v36, (v37, (v38, (v39, v40))))))))))))))))) =>
  bindO (client_Start ()) fun ((x42, (x43, x44)), x45) =>
  joinO (loopO (fun (v46, (v47, (v48, (v49, (v50, (v51, (v52, (v53, (v54, (v55, (v56, (v57, (v58, (v59, (v60, (v61, (v62, (v63, (v64, v65))))))))))))))))))) =>
    bif (decide (v46 < (((List.length x45) : Nat) : Int))) then
     bif (decide (((0 : Int) ≤ v46) ∧ (v46 < (((List.length x45) : Nat) : Int)))) then 
      bindO x45[(Int.toNat v46)]? fun x66 =>
      bif (decide ((List.length v65) ≤ (List.length v65))) then 
       bif (decide (((List.length ((List.take (List.length v65) v65) ++ ((v64, (x66.1, (x66.2.1, (x66.2.2.1, x66.2.2.2)))) :: ([] : List (Int × (Int × (Int × (Int × Int)))))))) * 40) ≤ 140737488355328)) then 
        bindO (some ((List.take (List.length v65) v65) ++ ((v64, (x66.1, (x66.2.1, (x66.2.2.1, x66.2.2.2)))) :: ([] : List (Int × (Int × (Int × (Int × Int)))))))) fun x67 =>
        bif (decide (((0 : Int) ≤ v46) ∧ (v46 < (((List.length x45) : Nat) : Int)))) then 
         bindO x45[(Int.toNat v46)]? fun x68 =>
         bif (decide (x68.1 = (4 : Int))) then
          bif (decide (((0 : Int) ≤ v46) ∧ (v46 < (((List.length x45) : Nat) : Int)))) then 
           bindO x45[(Int.toNat v46)]? fun x69 =>
           bif (decide (x69.2.2.1 < (14 : Int))) then
            bif (decide (((0 : Int) ≤ v46) ∧ (v46 < (((List.length x45) : Nat) : Int)))) then 
             bindO x45[(Int.toNat v46)]? fun x70 =>
             bif (decide (((0 : Int) ≤ v46) ∧ (v46 < (((List.length x45) : Nat) : Int)))) then 
              bindO x45[(Int.toNat v46)]? fun x71 =>
              bif (decide (((0 : Int) ≤ x70.2.2.1) ∧ (x70.2.2.1 < (14 : Int)))) then 
               bif (decide ((((Int.toNat x70.2.2.1) * 1) + 1) ≤ 15)) then 
                bindO (some (putL (v50 :: (v51 :: (v52 :: (v53 :: (v54 :: (v55 :: (v56 :: (v57 :: (v58 :: (v59 :: (v60 :: (v61 :: (v62 :: (v63 :: (v64 :: ([] : List Int)))))))))))))))) ((Int.toNat x70.2.2.1) * 1) ((Go.IntKind.wrap .i64 (v64 + (maxA (1 : Int) x71.2.2.2))) :: ([] : List Int)))) fun x73 =>
                bif (decide ((List.length x67) ≤ (List.length x67))) then 
                 some (Sum.inl ((Go.IntKind.wrap .i64 (v46 + (1 : Int))), (v47, (v48, (v49, ((List.getD x73 0 (0 : Int)), ((List.getD x73 1 (0 : Int)), ((List.getD x73 2 (0 : Int)), ((List.getD x73 3 (0 : Int)), ((List.getD x73 4 (0 : Int)), ((List.getD x73 5 (0 : Int)), ((List.getD x73 6 (0 : Int)), ((List.getD x73 7 (0 : Int)), ((List.getD x73 8 (0 : Int)), ((List.getD x73 9 (0 : Int)), ((List.getD x73 10 (0 : Int)), ((List.getD x73 11 (0 : Int)), ((List.getD x73 12 (0 : Int)), ((List.getD x73 13 (0 : Int)), ((List.getD x73 14 (0 : Int)), (List.take (List.length x67) x67)))))))))))))))))))))
                else none
               else none
              else none
             else none
            else none
           else
            bif (decide ((List.length x67) ≤ (List.length x67))) then 
             some (Sum.inl ((Go.IntKind.wrap .i64 (v46 + (1 : Int))), (v47, (v48, (v49, (v50, (v51, (v52, (v53, (v54, (v55, (v56, (v57, (v58, (v59, (v60, (v61, (v62, (v63, (v64, (List.take (List.length x67) x67)))))))))))))))))))))
            else none
          else none
         else
          bif (decide ((List.length x67) ≤ (List.length x67))) then 
           some (Sum.inl ((Go.IntKind.wrap .i64 (v46 + (1 : Int))), (v47, (v48, (v49, (v50, (v51, (v52, (v53, (v54, (v55, (v56, (v57, (v58, (v59, (v60, (v61, (v62, (v63, (v64, (List.take (List.length x67) x67)))))))))))))))))))))
          else none
        else none
       else none
      else none
     else none
    else
     outO (bif (decide ((List.length v65) ≤ (List.length v65))) then 
      some (Sum.inl (v47, (v48, (v49, (v50, (v51, (v52, (v53, (v54, (v55, (v56, (v57, (v58, (v59, (v60, (v61, (v62, (v63, (v64, (List.take (List.length v65) v65))))))))))))))))))))
     else none)) ((0 : Int), (x42, (x43, (x44, (v26, (v27, (v28, (v29, (v30, (v31, (v32, (v33, (v34, (v35, (v36, (v37, (v38, (v39, (v40, ([] : List (Int × (Int × (Int × (Int × Int))))))))))))))))))))))))) fun (v77, (v78, (v79, (v80, (v81, (v82, (v83, (v84, (v85, (v86, (v87, (v88, (v89, (v90, (v91, (v92, (v93, (v94, v95)))))))))))))))))) =>
  joinO (joinO (bif (decide ((List.length v95) ≤ (List.length v95))) then 
     loopO (fun (v97, (v98, (v99, (v100, (v101, (v102, (v103, (v104, (v105, (v106, (v107, (v108, (v109, (v110, (v111, (v112, (v113, (v114, (v115, v116))))))))))))))))))) =>
      bif (decide (v97 < (200 : Int))) then
       joinO (joinO (loopO (fun (v117, v118) =>
          bif (decide (v117 < (14 : Int))) then
           bif (decide (((0 : Int) ≤ v117) ∧ (v117 < (14 : Int)))) then 
            bindO (v101 :: (v102 :: (v103 :: (v104 :: (v105 :: (v106 :: (v107 :: (v108 :: (v109 :: (v110 :: (v111 :: (v112 :: (v113 :: (v114 :: (v115 :: ([] : List Int))))))))))))))))[(Int.toNat v117)]? fun x119 =>
            bif (decide (x119 ≥ (0 : Int))) then
             bif (decide (((0 : Int) ≤ v117) ∧ (v117 < (14 : Int)))) then 
              bindO (v101 :: (v102 :: (v103 :: (v104 :: (v105 :: (v106 :: (v107 :: (v108 :: (v109 :: (v110 :: (v111 :: (v112 :: (v113 :: (v114 :: (v115 :: ([] : List Int))))))))))))))))[(Int.toNat v117)]? fun x120 =>
              bif (decide (x120 ≤ (Go.IntKind.wrap .i64 a1))) then
               bif (decide (v118 < (0 : Int))) then
                some (Sum.inl ((Go.IntKind.wrap .i64 (v117 + (1 : Int))), v117))
               else
                bif (decide (((0 : Int) ≤ v117) ∧ (v117 < (14 : Int)))) then 
                 bindO (v101 :: (v102 :: (v103 :: (v104 :: (v105 :: (v106 :: (v107 :: (v108 :: (v109 :: (v110 :: (v111 :: (v112 :: (v113 :: (v114 :: (v115 :: ([] : List Int))))))))))))))))[(Int.toNat v117)]? fun x122 =>
                 bif (decide (((0 : Int) ≤ v118) ∧ (v118 < (14 : Int)))) then 
                  bindO (v101 :: (v102 :: (v103 :: (v104 :: (v105 :: (v106 :: (v107 :: (v108 :: (v109 :: (v110 :: (v111 :: (v112 :: (v113 :: (v114 :: (v115 :: ([] : List Int))))))))))))))))[(Int.toNat v118)]? fun x123 =>
                  bif (decide (x122 < x123)) then
                   some (Sum.inl ((Go.IntKind.wrap .i64 (v117 + (1 : Int))), v117))
                  else
                   some (Sum.inl ((Go.IntKind.wrap .i64 (v117 + (1 : Int))), v118))
                 else none
                else none
              else
               some (Sum.inl ((Go.IntKind.wrap .i64 (v117 + (1 : Int))), v118))
             else none
            else
             some (Sum.inl ((Go.IntKind.wrap .i64 (v117 + (1 : Int))), v118))
           else none
          else
           outO (some (Sum.inl (v117, v118)))) ((0 : Int), (-1 : Int))) fun (v128, v129) =>
        bif (decide (v129 < (0 : Int))) then
         outO (outO (bif (decide ((List.length v116) ≤ (List.length v116))) then 
          some (Sum.inl (v98, (v99, (v100, (v101, (v102, (v103, (v104, (v105, (v106, (v107, (v108, (v109, (v110, (v111, (v112, (v113, (v114, (v115, (List.take (List.length v116) v116))))))))))))))))))))
         else none))
        else
         bif (decide (((0 : Int) ≤ v129) ∧ (v129 < (14 : Int)))) then 
          bindO (v101 :: (v102 :: (v103 :: (v104 :: (v105 :: (v106 :: (v107 :: (v108 :: (v109 :: (v110 :: (v111 :: (v112 :: (v113 :: (v114 :: (v115 :: ([] : List Int))))))))))))))))[(Int.toNat v129)]? fun x130 =>
          bif (decide (((0 : Int) ≤ v129) ∧ (v129 < (14 : Int)))) then 
           bif (decide ((((Int.toNat v129) * 1) + 1) ≤ 15)) then 
            bindO (some (putL (v101 :: (v102 :: (v103 :: (v104 :: (v105 :: (v106 :: (v107 :: (v108 :: (v109 :: (v110 :: (v111 :: (v112 :: (v113 :: (v114 :: (x130 :: ([] : List Int)))))))))))))))) ((Int.toNat v129) * 1) ((-1 : Int) :: ([] : List Int)))) fun x131 =>
            bindO (client_Step ((v98, (v99, v100)), ((5 : Int), ((0 : Int), (Go.IntKind.wrap .u8 v129))))) fun ((x134, (x135, x136)), x137) =>
            joinO (bif (decide ((List.length v116) ≤ (List.length v116))) then 
              loopO (fun (v138, (v139, (v140, (v141, (v142, (v143, (v144, (v145, (v146, (v147, (v148, (v149, (v150, (v151, (v152, (v153, (v154, (v155, (v156, v157))))))))))))))))))) =>
               bif (decide (v138 < (((List.length x137) : Nat) : Int))) then
                bif (decide (((0 : Int) ≤ v138) ∧ (v138 < (((List.length x137) : Nat) : Int)))) then 
                 bindO x137[(Int.toNat v138)]? fun x158 =>
                 bif (decide ((List.length v157) ≤ (List.length v157))) then 
                  bif (decide (((List.length ((List.take (List.length v157) v157) ++ ((v156, (x158.1, (x158.2.1, (x158.2.2.1, x158.2.2.2)))) :: ([] : List (Int × (Int × (Int × (Int × Int)))))))) * 40) ≤ 140737488355328)) then 
                   bindO (some ((List.take (List.length v157) v157) ++ ((v156, (x158.1, (x158.2.1, (x158.2.2.1, x158.2.2.2)))) :: ([] : List (Int × (Int × (Int × (Int × Int)))))))) fun x159 =>
                   bif (decide (((0 : Int) ≤ v138) ∧ (v138 < (((List.length x137) : Nat) : Int)))) then 
                    bindO x137[(Int.toNat v138)]? fun x160 =>
                    bif (decide (x160.1 = (4 : Int))) then
                     bif (decide (((0 : Int) ≤ v138) ∧ (v138 < (((List.length x137) : Nat) : Int)))) then 
                      bindO x137[(Int.toNat v138)]? fun x161 =>
                      bif (decide (x161.2.2.1 < (14 : Int))) then
                       bif (decide (((0 : Int) ≤ v138) ∧ (v138 < (((List.length x137) : Nat) : Int)))) then 
                        bindO x137[(Int.toNat v138)]? fun x162 =>
                        bif (decide (((0 : Int) ≤ v138) ∧ (v138 < (((List.length x137) : Nat) : Int)))) then 
                         bindO x137[(Int.toNat v138)]? fun x163 =>
                         bif (decide (((0 : Int) ≤ x162.2.2.1) ∧ (x162.2.2.1 < (14 : Int)))) then 
                          bif (decide ((((Int.toNat x162.2.2.1) * 1) + 1) ≤ 15)) then 
                           bindO (some (putL (v142 :: (v143 :: (v144 :: (v145 :: (v146 :: (v147 :: (v148 :: (v149 :: (v150 :: (v151 :: (v152 :: (v153 :: (v154 :: (v155 :: (v156 :: ([] : List Int)))))))))))))))) ((Int.toNat x162.2.2.1) * 1) ((Go.IntKind.wrap .i64 (v156 + (maxA (1 : Int) x163.2.2.2))) :: ([] : List Int)))) fun x165 =>
                           bif (decide ((List.length x159) ≤ (List.length x159))) then 
                            some (Sum.inl ((Go.IntKind.wrap .i64 (v138 + (1 : Int))), (v139, (v140, (v141, ((List.getD x165 0 (0 : Int)), ((List.getD x165 1 (0 : Int)), ((List.getD x165 2 (0 : Int)), ((List.getD x165 3 (0 : Int)), ((List.getD x165 4 (0 : Int)), ((List.getD x165 5 (0 : Int)), ((List.getD x165 6 (0 : Int)), ((List.getD x165 7 (0 : Int)), ((List.getD x165 8 (0 : Int)), ((List.getD x165 9 (0 : Int)), ((List.getD x165 10 (0 : Int)), ((List.getD x165 11 (0 : Int)), ((List.getD x165 12 (0 : Int)), ((List.getD x165 13 (0 : Int)), ((List.getD x165 14 (0 : Int)), (List.take (List.length x159) x159)))))))))))))))))))))
                           else none
                          else none
                         else none
                        else none
                       else none
                      else
                       bif (decide ((List.length x159) ≤ (List.length x159))) then 
                        some (Sum.inl ((Go.IntKind.wrap .i64 (v138 + (1 : Int))), (v139, (v140, (v141, (v142, (v143, (v144, (v145, (v146, (v147, (v148, (v149, (v150, (v151, (v152, (v153, (v154, (v155, (v156, (List.take (List.length x159) x159)))))))))))))))))))))
                       else none
                     else none
                    else
                     bif (decide ((List.length x159) ≤ (List.length x159))) then 
                      some (Sum.inl ((Go.IntKind.wrap .i64 (v138 + (1 : Int))), (v139, (v140, (v141, (v142, (v143, (v144, (v145, (v146, (v147, (v148, (v149, (v150, (v151, (v152, (v153, (v154, (v155, (v156, (List.take (List.length x159) x159)))))))))))))))))))))
                     else none
                   else none
                  else none
                 else none
                else none
               else
                outO (bif (decide ((List.length v157) ≤ (List.length v157))) then 
                 some (Sum.inl (v139, (v140, (v141, (v142, (v143, (v144, (v145, (v146, (v147, (v148, (v149, (v150, (v151, (v152, (v153, (v154, (v155, (v156, (List.take (List.length v157) v157))))))))))))))))))))
                else none)) ((0 : Int), (x134, (x135, (x136, ((List.getD x131 0 (0 : Int)), ((List.getD x131 1 (0 : Int)), ((List.getD x131 2 (0 : Int)), ((List.getD x131 3 (0 : Int)), ((List.getD x131 4 (0 : Int)), ((List.getD x131 5 (0 : Int)), ((List.getD x131 6 (0 : Int)), ((List.getD x131 7 (0 : Int)), ((List.getD x131 8 (0 : Int)), ((List.getD x131 9 (0 : Int)), ((List.getD x131 10 (0 : Int)), ((List.getD x131 11 (0 : Int)), ((List.getD x131 12 (0 : Int)), ((List.getD x131 13 (0 : Int)), ((List.getD x131 14 (0 : Int)), (List.take (List.length v116) v116))))))))))))))))))))
             else none) fun (v169, (v170, (v171, (v172, (v173, (v174, (v175, (v176, (v177, (v178, (v179, (v180, (v181, (v182, (v183, (v184, (v185, (v186, v187)))))))))))))))))) =>
            bif (decide ((List.length v187) ≤ (List.length v187))) then 
             some (Sum.inl (v128, (v129, (v169, (v170, (v171, (v172, (v173, (v174, (v175, (v176, (v177, (v178, (v179, (v180, (v181, (v182, (v183, (v184, (v185, (v186, (List.take (List.length v187) v187))))))))))))))))))))))
            else none
           else none
          else none
         else none) fun (v188, (v189, (v190, (v191, (v192, (v193, (v194, (v195, (v196, (v197, (v198, (v199, (v200, (v201, (v202, (v203, (v204, (v205, (v206, (v207, v208)))))))))))))))))))) =>
       bif (decide ((List.length v208) ≤ (List.length v208))) then 
        some (Sum.inl ((Go.IntKind.wrap .i64 (v97 + (1 : Int))), (v190, (v191, (v192, (v193, (v194, (v195, (v196, (v197, (v198, (v199, (v200, (v201, (v202, (v203, (v204, (v205, (v206, (v207, (List.take (List.length v208) v208)))))))))))))))))))))
       else none
      else
       outO (bif (decide ((List.length v116) ≤ (List.length v116))) then 
        some (Sum.inl (v98, (v99, (v100, (v101, (v102, (v103, (v104, (v105, (v106, (v107, (v108, (v109, (v110, (v111, (v112, (v113, (v114, (v115, (List.take (List.length v116) v116))))))))))))))))))))
       else none)) ((0 : Int), (v77, (v78, (v79, (v80, (v81, (v82, (v83, (v84, (v85, (v86, (v87, (v88, (v89, (v90, (v91, (v92, (v93, (v94, (List.take (List.length v95) v95))))))))))))))))))))
    else none) fun (v210, (v211, (v212, (v213, (v214, (v215, (v216, (v217, (v218, (v219, (v220, (v221, (v222, (v223, (v224, (v225, (v226, (v227, v228)))))))))))))))))) =>
   bif (decide ((List.length v228) ≤ (List.length v228))) then 
    some (Sum.inl (v210, (v211, (v212, (v213, (v214, (v215, (v216, (v217, (v218, (v219, (v220, (v221, (v222, (v223, (v224, (v225, (v226, ((maxA v227 (Go.IntKind.wrap .i64 a1)), (List.take (List.length v228) v228))))))))))))))))))))
   else none)  K
noncomputable def aloneTail (a1 : Int) : Int × (Int × (Int × (Int × (Int × (Int × (Int × (Int × (Int × (Int × (Int × (Int × (Int × (Int × (Int × (Int × (Int × (Int × List (Int × (Int × (Int × (Int × Int))))))))))))))))))))) → Option Bool := fun (v229, (v230, (v231, (v232, (v233, (v234, (v235, (v236, (v237, (v238, (v239, (v240, (v241, (v242, (v243, (v244, (v245, (v246, v247)))))))))))))))))) =>
  joinO (joinO (loopO (fun (v249, v250) =>
     bif (decide (v249 < (((List.length v247) : Nat) : Int))) then
      bif (decide (((0 : Int) ≤ v249) ∧ (v249 < (((List.length v247) : Nat) : Int)))) then 
       bindO v247[(Int.toNat v249)]? fun x251 =>
       bif (decide (x251.2.1 = (1 : Int))) then
        bif (decide (((0 : Int) ≤ v249) ∧ (v249 < (((List.length v247) : Nat) : Int)))) then 
         bindO v247[(Int.toNat v249)]? fun x252 =>
         bif (decide (x252.1 ≤ (Go.IntKind.wrap .i64 a1))) then
          bif (decide (((0 : Int) ≤ v249) ∧ (v249 < (((List.length v247) : Nat) : Int)))) then 
           bindO v247[(Int.toNat v249)]? fun x253 =>
           bif (decide (x253.2.2.1 ≥ (0 : Int))) then
            bif (decide (((0 : Int) ≤ v249) ∧ (v249 < (((List.length v247) : Nat) : Int)))) then 
             bindO v247[(Int.toNat v249)]? fun x254 =>
             bif (decide (x254.2.2.1 ≤ (0 : Int))) then
              some (Sum.inl ((Go.IntKind.wrap .i64 (v249 + (1 : Int))), (Go.IntKind.wrap .i64 (v250 + (1 : Int)))))
             else
              some (Sum.inl ((Go.IntKind.wrap .i64 (v249 + (1 : Int))), v250))
            else none
           else
            some (Sum.inl ((Go.IntKind.wrap .i64 (v249 + (1 : Int))), v250))
          else none
         else
          some (Sum.inl ((Go.IntKind.wrap .i64 (v249 + (1 : Int))), v250))
        else none
       else
        some (Sum.inl ((Go.IntKind.wrap .i64 (v249 + (1 : Int))), v250))
      else none
     else
      outO (some (Sum.inl v250))) ((0 : Int), (0 : Int))) fun v261 =>
   some (Sum.inl v261)) fun v262 =>
  bindO (client_Copies (Go.IntKind.wrap .i64 a1)) fun x264 =>
  bif (decide (v262 ≠ x264)) then
   some Bool.false
  else
   joinO (joinO (loopO (fun (v266, v267) =>
      bif (decide (v266 < (((List.length v247) : Nat) : Int))) then
       bif (decide (((0 : Int) ≤ v266) ∧ (v266 < (((List.length v247) : Nat) : Int)))) then 
        bindO v247[(Int.toNat v266)]? fun x268 =>
        bif (decide (x268.2.1 = (3 : Int))) then
         bif (decide (((0 : Int) ≤ v266) ∧ (v266 < (((List.length v247) : Nat) : Int)))) then 
          bindO v247[(Int.toNat v266)]? fun x269 =>
          bif (decide (x269.1 ≤ (Go.IntKind.wrap .i64 a1))) then
           bif (decide (((0 : Int) ≤ v266) ∧ (v266 < (((List.length v247) : Nat) : Int)))) then 
            bindO v247[(Int.toNat v266)]? fun x270 =>
            bif (decide (x270.2.2.1 ≥ (0 : Int))) then
             bif (decide (((0 : Int) ≤ v266) ∧ (v266 < (((List.length v247) : Nat) : Int)))) then 
              bindO v247[(Int.toNat v266)]? fun x271 =>
              bif (decide (x271.2.2.1 ≤ (1000 : Int))) then
               some (Sum.inl ((Go.IntKind.wrap .i64 (v266 + (1 : Int))), (Go.IntKind.wrap .i64 (v267 + (1 : Int)))))
              else
               some (Sum.inl ((Go.IntKind.wrap .i64 (v266 + (1 : Int))), v267))
             else none
            else
             some (Sum.inl ((Go.IntKind.wrap .i64 (v266 + (1 : Int))), v267))
           else none
          else
           some (Sum.inl ((Go.IntKind.wrap .i64 (v266 + (1 : Int))), v267))
         else none
        else
         some (Sum.inl ((Go.IntKind.wrap .i64 (v266 + (1 : Int))), v267))
       else none
      else
       outO (some (Sum.inl v267))) ((0 : Int), (0 : Int))) fun v278 =>
    some (Sum.inl v278)) fun v279 =>
   bif (decide (v279 ≠ (0 : Int))) then
    some Bool.false
   else
    bif (decide (a1 < (32000 : Int))) then
     bif (decide (v229 = (2 : Int))) then
      joinO (joinO (loopO (fun (v281, v282) =>
         bif (decide (v281 < (((List.length v247) : Nat) : Int))) then
          bif (decide (((0 : Int) ≤ v281) ∧ (v281 < (((List.length v247) : Nat) : Int)))) then 
           bindO v247[(Int.toNat v281)]? fun x283 =>
           bif (decide (x283.2.1 = (5 : Int))) then
            bif (decide (((0 : Int) ≤ v281) ∧ (v281 < (((List.length v247) : Nat) : Int)))) then 
             bindO v247[(Int.toNat v281)]? fun x284 =>
             bif (decide (x284.1 ≤ (Go.IntKind.wrap .i64 a1))) then
              bif (decide (((0 : Int) ≤ v281) ∧ (v281 < (((List.length v247) : Nat) : Int)))) then 
               bindO v247[(Int.toNat v281)]? fun x285 =>
               bif (decide (x285.2.2.1 ≥ (0 : Int))) then
                bif (decide (((0 : Int) ≤ v281) ∧ (v281 < (((List.length v247) : Nat) : Int)))) then 
                 bindO v247[(Int.toNat v281)]? fun x286 =>
                 bif (decide (x286.2.2.1 ≤ (0 : Int))) then
                  some (Sum.inl ((Go.IntKind.wrap .i64 (v281 + (1 : Int))), (Go.IntKind.wrap .i64 (v282 + (1 : Int)))))
                 else
                  some (Sum.inl ((Go.IntKind.wrap .i64 (v281 + (1 : Int))), v282))
                else none
               else
                some (Sum.inl ((Go.IntKind.wrap .i64 (v281 + (1 : Int))), v282))
              else none
             else
              some (Sum.inl ((Go.IntKind.wrap .i64 (v281 + (1 : Int))), v282))
            else none
           else
            some (Sum.inl ((Go.IntKind.wrap .i64 (v281 + (1 : Int))), v282))
          else none
         else
          outO (some (Sum.inl v282))) ((0 : Int), (0 : Int))) fun v293 =>
       some (Sum.inl v293)) fun v294 =>
      bif (decide (v294 = (0 : Int))) then
       some Bool.true
      else
       some Bool.false
     else
      some Bool.false
    else
     bif ((decide (v229 = (7 : Int))) && ((decide (v230 = (0 : Int))) && (decide (v231 = (0 : Int))))) then
      joinO (joinO (loopO (fun (v296, v297) =>
         bif (decide (v296 < (((List.length v247) : Nat) : Int))) then
          bif (decide (((0 : Int) ≤ v296) ∧ (v296 < (((List.length v247) : Nat) : Int)))) then 
           bindO v247[(Int.toNat v296)]? fun x298 =>
           bif (decide (x298.2.1 = (5 : Int))) then
            bif (decide (((0 : Int) ≤ v296) ∧ (v296 < (((List.length v247) : Nat) : Int)))) then 
             bindO v247[(Int.toNat v296)]? fun x299 =>
             bif (decide (x299.1 ≤ (31999 : Int))) then
              bif (decide (((0 : Int) ≤ v296) ∧ (v296 < (((List.length v247) : Nat) : Int)))) then 
               bindO v247[(Int.toNat v296)]? fun x300 =>
               bif (decide (x300.2.2.1 ≥ (0 : Int))) then
                bif (decide (((0 : Int) ≤ v296) ∧ (v296 < (((List.length v247) : Nat) : Int)))) then 
                 bindO v247[(Int.toNat v296)]? fun x301 =>
                 bif (decide (x301.2.2.1 ≤ (0 : Int))) then
                  some (Sum.inl ((Go.IntKind.wrap .i64 (v296 + (1 : Int))), (Go.IntKind.wrap .i64 (v297 + (1 : Int)))))
                 else
                  some (Sum.inl ((Go.IntKind.wrap .i64 (v296 + (1 : Int))), v297))
                else none
               else
                some (Sum.inl ((Go.IntKind.wrap .i64 (v296 + (1 : Int))), v297))
              else none
             else
              some (Sum.inl ((Go.IntKind.wrap .i64 (v296 + (1 : Int))), v297))
            else none
           else
            some (Sum.inl ((Go.IntKind.wrap .i64 (v296 + (1 : Int))), v297))
          else none
         else
          outO (some (Sum.inl v297))) ((0 : Int), (0 : Int))) fun v308 =>
       some (Sum.inl v308)) fun v309 =>
      bif (decide (v309 = (0 : Int))) then
       joinO (joinO (loopO (fun (v310, v311) =>
          bif (decide (v310 < (((List.length v247) : Nat) : Int))) then
           bif (decide (((0 : Int) ≤ v310) ∧ (v310 < (((List.length v247) : Nat) : Int)))) then 
            bindO v247[(Int.toNat v310)]? fun x312 =>
            bif (decide (x312.2.1 = (5 : Int))) then
             bif (decide (((0 : Int) ≤ v310) ∧ (v310 < (((List.length v247) : Nat) : Int)))) then 
              bindO v247[(Int.toNat v310)]? fun x313 =>
              bif (decide (x313.1 ≤ (32000 : Int))) then
               bif (decide (((0 : Int) ≤ v310) ∧ (v310 < (((List.length v247) : Nat) : Int)))) then 
                bindO v247[(Int.toNat v310)]? fun x314 =>
                bif (decide (x314.2.2.1 ≥ (0 : Int))) then
                 bif (decide (((0 : Int) ≤ v310) ∧ (v310 < (((List.length v247) : Nat) : Int)))) then 
                  bindO v247[(Int.toNat v310)]? fun x315 =>
                  bif (decide (x315.2.2.1 ≤ (0 : Int))) then
                   some (Sum.inl ((Go.IntKind.wrap .i64 (v310 + (1 : Int))), (Go.IntKind.wrap .i64 (v311 + (1 : Int)))))
                  else
                   some (Sum.inl ((Go.IntKind.wrap .i64 (v310 + (1 : Int))), v311))
                 else none
                else
                 some (Sum.inl ((Go.IntKind.wrap .i64 (v310 + (1 : Int))), v311))
               else none
              else
               some (Sum.inl ((Go.IntKind.wrap .i64 (v310 + (1 : Int))), v311))
             else none
            else
             some (Sum.inl ((Go.IntKind.wrap .i64 (v310 + (1 : Int))), v311))
           else none
          else
           outO (some (Sum.inl v311))) ((0 : Int), (0 : Int))) fun v322 =>
        some (Sum.inl v322)) fun v323 =>
       bif (decide (v323 = (1 : Int))) then
        joinO (joinO (loopO (fun (v324, v325) =>
           bif (decide (v324 < (((List.length v247) : Nat) : Int))) then
            bif (decide (((0 : Int) ≤ v324) ∧ (v324 < (((List.length v247) : Nat) : Int)))) then 
             bindO v247[(Int.toNat v324)]? fun x326 =>
             bif (decide (x326.2.1 = (7 : Int))) then
              bif (decide (((0 : Int) ≤ v324) ∧ (v324 < (((List.length v247) : Nat) : Int)))) then 
               bindO v247[(Int.toNat v324)]? fun x327 =>
               bif (decide (x327.1 ≤ (32000 : Int))) then
                bif (decide (((0 : Int) ≤ v324) ∧ (v324 < (((List.length v247) : Nat) : Int)))) then 
                 bindO v247[(Int.toNat v324)]? fun x328 =>
                 bif (decide (x328.2.2.1 ≥ (0 : Int))) then
                  bif (decide (((0 : Int) ≤ v324) ∧ (v324 < (((List.length v247) : Nat) : Int)))) then 
                   bindO v247[(Int.toNat v324)]? fun x329 =>
                   bif (decide (x329.2.2.1 ≤ (0 : Int))) then
                    some (Sum.inl ((Go.IntKind.wrap .i64 (v324 + (1 : Int))), (Go.IntKind.wrap .i64 (v325 + (1 : Int)))))
                   else
                    some (Sum.inl ((Go.IntKind.wrap .i64 (v324 + (1 : Int))), v325))
                  else none
                 else
                  some (Sum.inl ((Go.IntKind.wrap .i64 (v324 + (1 : Int))), v325))
                else none
               else
                some (Sum.inl ((Go.IntKind.wrap .i64 (v324 + (1 : Int))), v325))
              else none
             else
              some (Sum.inl ((Go.IntKind.wrap .i64 (v324 + (1 : Int))), v325))
            else none
           else
            outO (some (Sum.inl v325))) ((0 : Int), (0 : Int))) fun v336 =>
         some (Sum.inl v336)) fun v337 =>
        bif (decide (v337 = (1 : Int))) then
         joinO (joinO (joinO (loopO (fun (v338, v339) =>
             bif (decide (v338 < (((List.length v247) : Nat) : Int))) then
              bif (decide (((0 : Int) ≤ v338) ∧ (v338 < (((List.length v247) : Nat) : Int)))) then 
               bindO v247[(Int.toNat v338)]? fun x340 =>
               bif (decide (x340.2.1 = (7 : Int))) then
                bif (decide (((0 : Int) ≤ v338) ∧ (v338 < (((List.length v247) : Nat) : Int)))) then 
                 bindO v247[(Int.toNat v338)]? fun x341 =>
                 bif (decide (x341.1 ≤ v246)) then
                  bif (decide (((0 : Int) ≤ v338) ∧ (v338 < (((List.length v247) : Nat) : Int)))) then 
                   bindO v247[(Int.toNat v338)]? fun x342 =>
                   bif (decide (x342.2.2.1 ≥ (0 : Int))) then
                    bif (decide (((0 : Int) ≤ v338) ∧ (v338 < (((List.length v247) : Nat) : Int)))) then 
                     bindO v247[(Int.toNat v338)]? fun x343 =>
                     bif (decide (x343.2.2.1 ≤ (1000 : Int))) then
                      some (Sum.inl ((Go.IntKind.wrap .i64 (v338 + (1 : Int))), (Go.IntKind.wrap .i64 (v339 + (1 : Int)))))
                     else
                      some (Sum.inl ((Go.IntKind.wrap .i64 (v338 + (1 : Int))), v339))
                    else none
                   else
                    some (Sum.inl ((Go.IntKind.wrap .i64 (v338 + (1 : Int))), v339))
                  else none
                 else
                  some (Sum.inl ((Go.IntKind.wrap .i64 (v338 + (1 : Int))), v339))
                else none
               else
                some (Sum.inl ((Go.IntKind.wrap .i64 (v338 + (1 : Int))), v339))
              else none
             else
              outO (some (Sum.inl v339))) ((0 : Int), (0 : Int))) fun v350 =>
           some (Sum.inl v350)) fun v351 =>
          bif (decide (v351 > (1 : Int))) then
           some (Sum.inl Bool.false)
          else
           bif ((decide (v351 = (1 : Int))) != (decide (v229 = (7 : Int)))) then
            some (Sum.inl Bool.false)
           else
            bif (decide (v351 = (0 : Int))) then
             some (Sum.inl Bool.true)
            else
             bif (decide ((((List.length v247) : Nat) : Int) > (0 : Int))) then
              bindO (some (Go.IntKind.wrap .i64 ((((List.length v247) : Nat) : Int) - (1 : Int)))) fun x352 =>
              bif (decide (((0 : Int) ≤ x352) ∧ (x352 < (((List.length v247) : Nat) : Int)))) then 
               bindO v247[(Int.toNat x352)]? fun x353 =>
               some (Sum.inl (decide (x353.2.1 = (7 : Int))))
              else none
             else
              some (Sum.inl Bool.false)) fun v354 =>
         bif v354 then
          some Bool.true
         else
          some Bool.false
        else
         some Bool.false
       else
        some Bool.false
      else
       some Bool.false
     else
      some Bool.false
theorem alone_pre (a1 : Int) : dialtonelaw13_ClientAlone a1 = alonePre a1 (aloneTail a1) := rfl
def alonePreF (q : Int → Bool) (T : Int) (K : Int × (Int × (Int × (Int × (Int × (Int × (Int × (Int × (Int × (Int × (Int × (Int × (Int × (Int × (Int × (Int × (Int × (Int × List (Int × (Int × (Int × (Int × Int))))))))))))))))))))) → Option Bool) : Option Bool :=
  joinO (loopF (fun (v2, (v3, (v4, (v5, (v6, (v7, (v8, (v9, (v10, (v11, (v12, (v13, (v14, (v15, (v16, (v17, (v18, (v19, v20)))))))))))))))))) =>
    bif (decide (v2 < (14 : Int))) then
     bif (decide (((0 : Int) ≤ v2) ∧ (v2 < (14 : Int)))) then 
      bif (decide ((((Int.toNat v2) * 1) + 1) ≤ 15)) then 
       bindO (some (putL (v6 :: (v7 :: (v8 :: (v9 :: (v10 :: (v11 :: (v12 :: (v13 :: (v14 :: (v15 :: (v16 :: (v17 :: (v18 :: (v19 :: (v20 :: ([] : List Int)))))))))))))))) ((Int.toNat v2) * 1) ((-1 : Int) :: ([] : List Int)))) fun x21 =>
       some (Sum.inl ((Go.IntKind.wrap .i64 (v2 + (1 : Int))), (v3, (v4, (v5, ((List.getD x21 0 (0 : Int)), ((List.getD x21 1 (0 : Int)), ((List.getD x21 2 (0 : Int)), ((List.getD x21 3 (0 : Int)), ((List.getD x21 4 (0 : Int)), ((List.getD x21 5 (0 : Int)), ((List.getD x21 6 (0 : Int)), ((List.getD x21 7 (0 : Int)), ((List.getD x21 8 (0 : Int)), ((List.getD x21 9 (0 : Int)), ((List.getD x21 10 (0 : Int)), ((List.getD x21 11 (0 : Int)), ((List.getD x21 12 (0 : Int)), ((List.getD x21 13 (0 : Int)), (List.getD x21 14 (0 : Int)))))))))))))))))))))
      else none
     else none
    else
     outO (some (Sum.inl (v3, (v4, (v5, (v6, (v7, (v8, (v9, (v10, (v11, (v12, (v13, (v14, (v15, (v16, (v17, (v18, (v19, v20)))))))))))))))))))) 1000 ((0 : Int), ((0 : Int), ((0 : Int), ((0 : Int), ((0 : Int), ((0 : Int), ((0 : Int), ((0 : Int), ((0 : Int), ((0 : Int), ((0 : Int), ((0 : Int), ((0 : Int), ((0 : Int), ((0 : Int), ((0 : Int), ((0 : Int), ((0 : Int), (0 : Int)))))))))))))))))))) fun (v23, (v24, (v25, (v26, (v27, (v28, (v29, (v30, (v31, (v32, (v33, (v34, (v35, (v36, (v37, (v38, (v39, v40))))))))))))))))) =>
  bindO (client_Start_F ()) fun ((x42, (x43, x44)), x45) =>
  joinO (loopF (fun (v46, (v47, (v48, (v49, (v50, (v51, (v52, (v53, (v54, (v55, (v56, (v57, (v58, (v59, (v60, (v61, (v62, (v63, (v64, v65))))))))))))))))))) =>
    bif (decide (v46 < (((List.length x45) : Nat) : Int))) then
     bif (decide (((0 : Int) ≤ v46) ∧ (v46 < (((List.length x45) : Nat) : Int)))) then 
      bindO x45[(Int.toNat v46)]? fun x66 =>
      bif (decide ((List.length v65) ≤ (List.length v65))) then 
       bif (decide (((List.length ((List.take (List.length v65) v65) ++ ((v64, (x66.1, (x66.2.1, (x66.2.2.1, x66.2.2.2)))) :: ([] : List (Int × (Int × (Int × (Int × Int)))))))) * 40) ≤ 140737488355328)) then 
        bindO (some ((List.take (List.length v65) v65) ++ ((v64, (x66.1, (x66.2.1, (x66.2.2.1, x66.2.2.2)))) :: ([] : List (Int × (Int × (Int × (Int × Int)))))))) fun x67 =>
        bif (decide (((0 : Int) ≤ v46) ∧ (v46 < (((List.length x45) : Nat) : Int)))) then 
         bindO x45[(Int.toNat v46)]? fun x68 =>
         bif (decide (x68.1 = (4 : Int))) then
          bif (decide (((0 : Int) ≤ v46) ∧ (v46 < (((List.length x45) : Nat) : Int)))) then 
           bindO x45[(Int.toNat v46)]? fun x69 =>
           bif (decide (x69.2.2.1 < (14 : Int))) then
            bif (decide (((0 : Int) ≤ v46) ∧ (v46 < (((List.length x45) : Nat) : Int)))) then 
             bindO x45[(Int.toNat v46)]? fun x70 =>
             bif (decide (((0 : Int) ≤ v46) ∧ (v46 < (((List.length x45) : Nat) : Int)))) then 
              bindO x45[(Int.toNat v46)]? fun x71 =>
              bif (decide (((0 : Int) ≤ x70.2.2.1) ∧ (x70.2.2.1 < (14 : Int)))) then 
               bif (decide ((((Int.toNat x70.2.2.1) * 1) + 1) ≤ 15)) then 
                bindO (some (putL (v50 :: (v51 :: (v52 :: (v53 :: (v54 :: (v55 :: (v56 :: (v57 :: (v58 :: (v59 :: (v60 :: (v61 :: (v62 :: (v63 :: (v64 :: ([] : List Int)))))))))))))))) ((Int.toNat x70.2.2.1) * 1) ((Go.IntKind.wrap .i64 (v64 + (maxA (1 : Int) x71.2.2.2))) :: ([] : List Int)))) fun x73 =>
                bif (decide ((List.length x67) ≤ (List.length x67))) then 
                 some (Sum.inl ((Go.IntKind.wrap .i64 (v46 + (1 : Int))), (v47, (v48, (v49, ((List.getD x73 0 (0 : Int)), ((List.getD x73 1 (0 : Int)), ((List.getD x73 2 (0 : Int)), ((List.getD x73 3 (0 : Int)), ((List.getD x73 4 (0 : Int)), ((List.getD x73 5 (0 : Int)), ((List.getD x73 6 (0 : Int)), ((List.getD x73 7 (0 : Int)), ((List.getD x73 8 (0 : Int)), ((List.getD x73 9 (0 : Int)), ((List.getD x73 10 (0 : Int)), ((List.getD x73 11 (0 : Int)), ((List.getD x73 12 (0 : Int)), ((List.getD x73 13 (0 : Int)), ((List.getD x73 14 (0 : Int)), (List.take (List.length x67) x67)))))))))))))))))))))
                else none
               else none
              else none
             else none
            else none
           else
            bif (decide ((List.length x67) ≤ (List.length x67))) then 
             some (Sum.inl ((Go.IntKind.wrap .i64 (v46 + (1 : Int))), (v47, (v48, (v49, (v50, (v51, (v52, (v53, (v54, (v55, (v56, (v57, (v58, (v59, (v60, (v61, (v62, (v63, (v64, (List.take (List.length x67) x67)))))))))))))))))))))
            else none
          else none
         else
          bif (decide ((List.length x67) ≤ (List.length x67))) then 
           some (Sum.inl ((Go.IntKind.wrap .i64 (v46 + (1 : Int))), (v47, (v48, (v49, (v50, (v51, (v52, (v53, (v54, (v55, (v56, (v57, (v58, (v59, (v60, (v61, (v62, (v63, (v64, (List.take (List.length x67) x67)))))))))))))))))))))
          else none
        else none
       else none
      else none
     else none
    else
     outO (bif (decide ((List.length v65) ≤ (List.length v65))) then 
      some (Sum.inl (v47, (v48, (v49, (v50, (v51, (v52, (v53, (v54, (v55, (v56, (v57, (v58, (v59, (v60, (v61, (v62, (v63, (v64, (List.take (List.length v65) v65))))))))))))))))))))
     else none)) 1000 ((0 : Int), (x42, (x43, (x44, (v26, (v27, (v28, (v29, (v30, (v31, (v32, (v33, (v34, (v35, (v36, (v37, (v38, (v39, (v40, ([] : List (Int × (Int × (Int × (Int × Int))))))))))))))))))))))))) fun (v77, (v78, (v79, (v80, (v81, (v82, (v83, (v84, (v85, (v86, (v87, (v88, (v89, (v90, (v91, (v92, (v93, (v94, v95)))))))))))))))))) =>
  joinO (joinO (bif (decide ((List.length v95) ≤ (List.length v95))) then 
     loopF (fun (v97, (v98, (v99, (v100, (v101, (v102, (v103, (v104, (v105, (v106, (v107, (v108, (v109, (v110, (v111, (v112, (v113, (v114, (v115, v116))))))))))))))))))) =>
      bif (decide (v97 < (200 : Int))) then
       joinO (joinO (loopF (fun (v117, v118) =>
          bif (decide (v117 < (14 : Int))) then
           bif (decide (((0 : Int) ≤ v117) ∧ (v117 < (14 : Int)))) then 
            bindO (v101 :: (v102 :: (v103 :: (v104 :: (v105 :: (v106 :: (v107 :: (v108 :: (v109 :: (v110 :: (v111 :: (v112 :: (v113 :: (v114 :: (v115 :: ([] : List Int))))))))))))))))[(Int.toNat v117)]? fun x119 =>
            bif (decide (x119 ≥ (0 : Int))) then
             bif (decide (((0 : Int) ≤ v117) ∧ (v117 < (14 : Int)))) then 
              bindO (v101 :: (v102 :: (v103 :: (v104 :: (v105 :: (v106 :: (v107 :: (v108 :: (v109 :: (v110 :: (v111 :: (v112 :: (v113 :: (v114 :: (v115 :: ([] : List Int))))))))))))))))[(Int.toNat v117)]? fun x120 =>
              bif (q x120) then
               bif (decide (v118 < (0 : Int))) then
                some (Sum.inl ((Go.IntKind.wrap .i64 (v117 + (1 : Int))), v117))
               else
                bif (decide (((0 : Int) ≤ v117) ∧ (v117 < (14 : Int)))) then 
                 bindO (v101 :: (v102 :: (v103 :: (v104 :: (v105 :: (v106 :: (v107 :: (v108 :: (v109 :: (v110 :: (v111 :: (v112 :: (v113 :: (v114 :: (v115 :: ([] : List Int))))))))))))))))[(Int.toNat v117)]? fun x122 =>
                 bif (decide (((0 : Int) ≤ v118) ∧ (v118 < (14 : Int)))) then 
                  bindO (v101 :: (v102 :: (v103 :: (v104 :: (v105 :: (v106 :: (v107 :: (v108 :: (v109 :: (v110 :: (v111 :: (v112 :: (v113 :: (v114 :: (v115 :: ([] : List Int))))))))))))))))[(Int.toNat v118)]? fun x123 =>
                  bif (decide (x122 < x123)) then
                   some (Sum.inl ((Go.IntKind.wrap .i64 (v117 + (1 : Int))), v117))
                  else
                   some (Sum.inl ((Go.IntKind.wrap .i64 (v117 + (1 : Int))), v118))
                 else none
                else none
              else
               some (Sum.inl ((Go.IntKind.wrap .i64 (v117 + (1 : Int))), v118))
             else none
            else
             some (Sum.inl ((Go.IntKind.wrap .i64 (v117 + (1 : Int))), v118))
           else none
          else
           outO (some (Sum.inl (v117, v118)))) 1000 ((0 : Int), (-1 : Int))) fun (v128, v129) =>
        bif (decide (v129 < (0 : Int))) then
         outO (outO (bif (decide ((List.length v116) ≤ (List.length v116))) then 
          some (Sum.inl (v98, (v99, (v100, (v101, (v102, (v103, (v104, (v105, (v106, (v107, (v108, (v109, (v110, (v111, (v112, (v113, (v114, (v115, (List.take (List.length v116) v116))))))))))))))))))))
         else none))
        else
         bif (decide (((0 : Int) ≤ v129) ∧ (v129 < (14 : Int)))) then 
          bindO (v101 :: (v102 :: (v103 :: (v104 :: (v105 :: (v106 :: (v107 :: (v108 :: (v109 :: (v110 :: (v111 :: (v112 :: (v113 :: (v114 :: (v115 :: ([] : List Int))))))))))))))))[(Int.toNat v129)]? fun x130 =>
          bif (decide (((0 : Int) ≤ v129) ∧ (v129 < (14 : Int)))) then 
           bif (decide ((((Int.toNat v129) * 1) + 1) ≤ 15)) then 
            bindO (some (putL (v101 :: (v102 :: (v103 :: (v104 :: (v105 :: (v106 :: (v107 :: (v108 :: (v109 :: (v110 :: (v111 :: (v112 :: (v113 :: (v114 :: (x130 :: ([] : List Int)))))))))))))))) ((Int.toNat v129) * 1) ((-1 : Int) :: ([] : List Int)))) fun x131 =>
            bindO (client_Step_F ((v98, (v99, v100)), ((5 : Int), ((0 : Int), (Go.IntKind.wrap .u8 v129))))) fun ((x134, (x135, x136)), x137) =>
            joinO (bif (decide ((List.length v116) ≤ (List.length v116))) then 
              loopF (fun (v138, (v139, (v140, (v141, (v142, (v143, (v144, (v145, (v146, (v147, (v148, (v149, (v150, (v151, (v152, (v153, (v154, (v155, (v156, v157))))))))))))))))))) =>
               bif (decide (v138 < (((List.length x137) : Nat) : Int))) then
                bif (decide (((0 : Int) ≤ v138) ∧ (v138 < (((List.length x137) : Nat) : Int)))) then 
                 bindO x137[(Int.toNat v138)]? fun x158 =>
                 bif (decide ((List.length v157) ≤ (List.length v157))) then 
                  bif (decide (((List.length ((List.take (List.length v157) v157) ++ ((v156, (x158.1, (x158.2.1, (x158.2.2.1, x158.2.2.2)))) :: ([] : List (Int × (Int × (Int × (Int × Int)))))))) * 40) ≤ 140737488355328)) then 
                   bindO (some ((List.take (List.length v157) v157) ++ ((v156, (x158.1, (x158.2.1, (x158.2.2.1, x158.2.2.2)))) :: ([] : List (Int × (Int × (Int × (Int × Int)))))))) fun x159 =>
                   bif (decide (((0 : Int) ≤ v138) ∧ (v138 < (((List.length x137) : Nat) : Int)))) then 
                    bindO x137[(Int.toNat v138)]? fun x160 =>
                    bif (decide (x160.1 = (4 : Int))) then
                     bif (decide (((0 : Int) ≤ v138) ∧ (v138 < (((List.length x137) : Nat) : Int)))) then 
                      bindO x137[(Int.toNat v138)]? fun x161 =>
                      bif (decide (x161.2.2.1 < (14 : Int))) then
                       bif (decide (((0 : Int) ≤ v138) ∧ (v138 < (((List.length x137) : Nat) : Int)))) then 
                        bindO x137[(Int.toNat v138)]? fun x162 =>
                        bif (decide (((0 : Int) ≤ v138) ∧ (v138 < (((List.length x137) : Nat) : Int)))) then 
                         bindO x137[(Int.toNat v138)]? fun x163 =>
                         bif (decide (((0 : Int) ≤ x162.2.2.1) ∧ (x162.2.2.1 < (14 : Int)))) then 
                          bif (decide ((((Int.toNat x162.2.2.1) * 1) + 1) ≤ 15)) then 
                           bindO (some (putL (v142 :: (v143 :: (v144 :: (v145 :: (v146 :: (v147 :: (v148 :: (v149 :: (v150 :: (v151 :: (v152 :: (v153 :: (v154 :: (v155 :: (v156 :: ([] : List Int)))))))))))))))) ((Int.toNat x162.2.2.1) * 1) ((Go.IntKind.wrap .i64 (v156 + (maxA (1 : Int) x163.2.2.2))) :: ([] : List Int)))) fun x165 =>
                           bif (decide ((List.length x159) ≤ (List.length x159))) then 
                            some (Sum.inl ((Go.IntKind.wrap .i64 (v138 + (1 : Int))), (v139, (v140, (v141, ((List.getD x165 0 (0 : Int)), ((List.getD x165 1 (0 : Int)), ((List.getD x165 2 (0 : Int)), ((List.getD x165 3 (0 : Int)), ((List.getD x165 4 (0 : Int)), ((List.getD x165 5 (0 : Int)), ((List.getD x165 6 (0 : Int)), ((List.getD x165 7 (0 : Int)), ((List.getD x165 8 (0 : Int)), ((List.getD x165 9 (0 : Int)), ((List.getD x165 10 (0 : Int)), ((List.getD x165 11 (0 : Int)), ((List.getD x165 12 (0 : Int)), ((List.getD x165 13 (0 : Int)), ((List.getD x165 14 (0 : Int)), (List.take (List.length x159) x159)))))))))))))))))))))
                           else none
                          else none
                         else none
                        else none
                       else none
                      else
                       bif (decide ((List.length x159) ≤ (List.length x159))) then 
                        some (Sum.inl ((Go.IntKind.wrap .i64 (v138 + (1 : Int))), (v139, (v140, (v141, (v142, (v143, (v144, (v145, (v146, (v147, (v148, (v149, (v150, (v151, (v152, (v153, (v154, (v155, (v156, (List.take (List.length x159) x159)))))))))))))))))))))
                       else none
                     else none
                    else
                     bif (decide ((List.length x159) ≤ (List.length x159))) then 
                      some (Sum.inl ((Go.IntKind.wrap .i64 (v138 + (1 : Int))), (v139, (v140, (v141, (v142, (v143, (v144, (v145, (v146, (v147, (v148, (v149, (v150, (v151, (v152, (v153, (v154, (v155, (v156, (List.take (List.length x159) x159)))))))))))))))))))))
                     else none
                   else none
                  else none
                 else none
                else none
               else
                outO (bif (decide ((List.length v157) ≤ (List.length v157))) then 
                 some (Sum.inl (v139, (v140, (v141, (v142, (v143, (v144, (v145, (v146, (v147, (v148, (v149, (v150, (v151, (v152, (v153, (v154, (v155, (v156, (List.take (List.length v157) v157))))))))))))))))))))
                else none)) 1000 ((0 : Int), (x134, (x135, (x136, ((List.getD x131 0 (0 : Int)), ((List.getD x131 1 (0 : Int)), ((List.getD x131 2 (0 : Int)), ((List.getD x131 3 (0 : Int)), ((List.getD x131 4 (0 : Int)), ((List.getD x131 5 (0 : Int)), ((List.getD x131 6 (0 : Int)), ((List.getD x131 7 (0 : Int)), ((List.getD x131 8 (0 : Int)), ((List.getD x131 9 (0 : Int)), ((List.getD x131 10 (0 : Int)), ((List.getD x131 11 (0 : Int)), ((List.getD x131 12 (0 : Int)), ((List.getD x131 13 (0 : Int)), ((List.getD x131 14 (0 : Int)), (List.take (List.length v116) v116))))))))))))))))))))
             else none) fun (v169, (v170, (v171, (v172, (v173, (v174, (v175, (v176, (v177, (v178, (v179, (v180, (v181, (v182, (v183, (v184, (v185, (v186, v187)))))))))))))))))) =>
            bif (decide ((List.length v187) ≤ (List.length v187))) then 
             some (Sum.inl (v128, (v129, (v169, (v170, (v171, (v172, (v173, (v174, (v175, (v176, (v177, (v178, (v179, (v180, (v181, (v182, (v183, (v184, (v185, (v186, (List.take (List.length v187) v187))))))))))))))))))))))
            else none
           else none
          else none
         else none) fun (v188, (v189, (v190, (v191, (v192, (v193, (v194, (v195, (v196, (v197, (v198, (v199, (v200, (v201, (v202, (v203, (v204, (v205, (v206, (v207, v208)))))))))))))))))))) =>
       bif (decide ((List.length v208) ≤ (List.length v208))) then 
        some (Sum.inl ((Go.IntKind.wrap .i64 (v97 + (1 : Int))), (v190, (v191, (v192, (v193, (v194, (v195, (v196, (v197, (v198, (v199, (v200, (v201, (v202, (v203, (v204, (v205, (v206, (v207, (List.take (List.length v208) v208)))))))))))))))))))))
       else none
      else
       outO (bif (decide ((List.length v116) ≤ (List.length v116))) then 
        some (Sum.inl (v98, (v99, (v100, (v101, (v102, (v103, (v104, (v105, (v106, (v107, (v108, (v109, (v110, (v111, (v112, (v113, (v114, (v115, (List.take (List.length v116) v116))))))))))))))))))))
       else none)) 1000 ((0 : Int), (v77, (v78, (v79, (v80, (v81, (v82, (v83, (v84, (v85, (v86, (v87, (v88, (v89, (v90, (v91, (v92, (v93, (v94, (List.take (List.length v95) v95))))))))))))))))))))
    else none) fun (v210, (v211, (v212, (v213, (v214, (v215, (v216, (v217, (v218, (v219, (v220, (v221, (v222, (v223, (v224, (v225, (v226, (v227, v228)))))))))))))))))) =>
   bif (decide ((List.length v228) ≤ (List.length v228))) then 
    some (Sum.inl (v210, (v211, (v212, (v213, (v214, (v215, (v216, (v217, (v218, (v219, (v220, (v221, (v222, (v223, (v224, (v225, (v226, ((maxA v227 T), (List.take (List.length v228) v228))))))))))))))))))))
   else none)  K
def aloneTailF (q : Int → Bool) (r : Int → Bool) : Int × (Int × (Int × (Int × (Int × (Int × (Int × (Int × (Int × (Int × (Int × (Int × (Int × (Int × (Int × (Int × (Int × (Int × List (Int × (Int × (Int × (Int × Int))))))))))))))))))))) → Option Bool := fun (v229, (v230, (v231, (v232, (v233, (v234, (v235, (v236, (v237, (v238, (v239, (v240, (v241, (v242, (v243, (v244, (v245, (v246, v247)))))))))))))))))) =>
  joinO (joinO (loopF (fun (v249, v250) =>
     bif (decide (v249 < (((List.length v247) : Nat) : Int))) then
      bif (decide (((0 : Int) ≤ v249) ∧ (v249 < (((List.length v247) : Nat) : Int)))) then 
       bindO v247[(Int.toNat v249)]? fun x251 =>
       bif (decide (x251.2.1 = (1 : Int))) then
        bif (decide (((0 : Int) ≤ v249) ∧ (v249 < (((List.length v247) : Nat) : Int)))) then 
         bindO v247[(Int.toNat v249)]? fun x252 =>
         bif (q x252.1) then
          bif (decide (((0 : Int) ≤ v249) ∧ (v249 < (((List.length v247) : Nat) : Int)))) then 
           bindO v247[(Int.toNat v249)]? fun x253 =>
           bif (decide (x253.2.2.1 ≥ (0 : Int))) then
            bif (decide (((0 : Int) ≤ v249) ∧ (v249 < (((List.length v247) : Nat) : Int)))) then 
             bindO v247[(Int.toNat v249)]? fun x254 =>
             bif (decide (x254.2.2.1 ≤ (0 : Int))) then
              some (Sum.inl ((Go.IntKind.wrap .i64 (v249 + (1 : Int))), (Go.IntKind.wrap .i64 (v250 + (1 : Int)))))
             else
              some (Sum.inl ((Go.IntKind.wrap .i64 (v249 + (1 : Int))), v250))
            else none
           else
            some (Sum.inl ((Go.IntKind.wrap .i64 (v249 + (1 : Int))), v250))
          else none
         else
          some (Sum.inl ((Go.IntKind.wrap .i64 (v249 + (1 : Int))), v250))
        else none
       else
        some (Sum.inl ((Go.IntKind.wrap .i64 (v249 + (1 : Int))), v250))
      else none
     else
      outO (some (Sum.inl v250))) 1000 ((0 : Int), (0 : Int))) fun v261 =>
   some (Sum.inl v261)) fun v262 =>
  bindO (Copies_F q) fun x264 =>
  bif (decide (v262 ≠ x264)) then
   some Bool.false
  else
   joinO (joinO (loopF (fun (v266, v267) =>
      bif (decide (v266 < (((List.length v247) : Nat) : Int))) then
       bif (decide (((0 : Int) ≤ v266) ∧ (v266 < (((List.length v247) : Nat) : Int)))) then 
        bindO v247[(Int.toNat v266)]? fun x268 =>
        bif (decide (x268.2.1 = (3 : Int))) then
         bif (decide (((0 : Int) ≤ v266) ∧ (v266 < (((List.length v247) : Nat) : Int)))) then 
          bindO v247[(Int.toNat v266)]? fun x269 =>
          bif (q x269.1) then
           bif (decide (((0 : Int) ≤ v266) ∧ (v266 < (((List.length v247) : Nat) : Int)))) then 
            bindO v247[(Int.toNat v266)]? fun x270 =>
            bif (decide (x270.2.2.1 ≥ (0 : Int))) then
             bif (decide (((0 : Int) ≤ v266) ∧ (v266 < (((List.length v247) : Nat) : Int)))) then 
              bindO v247[(Int.toNat v266)]? fun x271 =>
              bif (decide (x271.2.2.1 ≤ (1000 : Int))) then
               some (Sum.inl ((Go.IntKind.wrap .i64 (v266 + (1 : Int))), (Go.IntKind.wrap .i64 (v267 + (1 : Int)))))
              else
               some (Sum.inl ((Go.IntKind.wrap .i64 (v266 + (1 : Int))), v267))
             else none
            else
             some (Sum.inl ((Go.IntKind.wrap .i64 (v266 + (1 : Int))), v267))
           else none
          else
           some (Sum.inl ((Go.IntKind.wrap .i64 (v266 + (1 : Int))), v267))
         else none
        else
         some (Sum.inl ((Go.IntKind.wrap .i64 (v266 + (1 : Int))), v267))
       else none
      else
       outO (some (Sum.inl v267))) 1000 ((0 : Int), (0 : Int))) fun v278 =>
    some (Sum.inl v278)) fun v279 =>
   bif (decide (v279 ≠ (0 : Int))) then
    some Bool.false
   else
    bif (!(q 32000)) then
     bif (decide (v229 = (2 : Int))) then
      joinO (joinO (loopF (fun (v281, v282) =>
         bif (decide (v281 < (((List.length v247) : Nat) : Int))) then
          bif (decide (((0 : Int) ≤ v281) ∧ (v281 < (((List.length v247) : Nat) : Int)))) then 
           bindO v247[(Int.toNat v281)]? fun x283 =>
           bif (decide (x283.2.1 = (5 : Int))) then
            bif (decide (((0 : Int) ≤ v281) ∧ (v281 < (((List.length v247) : Nat) : Int)))) then 
             bindO v247[(Int.toNat v281)]? fun x284 =>
             bif (q x284.1) then
              bif (decide (((0 : Int) ≤ v281) ∧ (v281 < (((List.length v247) : Nat) : Int)))) then 
               bindO v247[(Int.toNat v281)]? fun x285 =>
               bif (decide (x285.2.2.1 ≥ (0 : Int))) then
                bif (decide (((0 : Int) ≤ v281) ∧ (v281 < (((List.length v247) : Nat) : Int)))) then 
                 bindO v247[(Int.toNat v281)]? fun x286 =>
                 bif (decide (x286.2.2.1 ≤ (0 : Int))) then
                  some (Sum.inl ((Go.IntKind.wrap .i64 (v281 + (1 : Int))), (Go.IntKind.wrap .i64 (v282 + (1 : Int)))))
                 else
                  some (Sum.inl ((Go.IntKind.wrap .i64 (v281 + (1 : Int))), v282))
                else none
               else
                some (Sum.inl ((Go.IntKind.wrap .i64 (v281 + (1 : Int))), v282))
              else none
             else
              some (Sum.inl ((Go.IntKind.wrap .i64 (v281 + (1 : Int))), v282))
            else none
           else
            some (Sum.inl ((Go.IntKind.wrap .i64 (v281 + (1 : Int))), v282))
          else none
         else
          outO (some (Sum.inl v282))) 1000 ((0 : Int), (0 : Int))) fun v293 =>
       some (Sum.inl v293)) fun v294 =>
      bif (decide (v294 = (0 : Int))) then
       some Bool.true
      else
       some Bool.false
     else
      some Bool.false
    else
     bif ((decide (v229 = (7 : Int))) && ((decide (v230 = (0 : Int))) && (decide (v231 = (0 : Int))))) then
      joinO (joinO (loopF (fun (v296, v297) =>
         bif (decide (v296 < (((List.length v247) : Nat) : Int))) then
          bif (decide (((0 : Int) ≤ v296) ∧ (v296 < (((List.length v247) : Nat) : Int)))) then 
           bindO v247[(Int.toNat v296)]? fun x298 =>
           bif (decide (x298.2.1 = (5 : Int))) then
            bif (decide (((0 : Int) ≤ v296) ∧ (v296 < (((List.length v247) : Nat) : Int)))) then 
             bindO v247[(Int.toNat v296)]? fun x299 =>
             bif (decide (x299.1 ≤ (31999 : Int))) then
              bif (decide (((0 : Int) ≤ v296) ∧ (v296 < (((List.length v247) : Nat) : Int)))) then 
               bindO v247[(Int.toNat v296)]? fun x300 =>
               bif (decide (x300.2.2.1 ≥ (0 : Int))) then
                bif (decide (((0 : Int) ≤ v296) ∧ (v296 < (((List.length v247) : Nat) : Int)))) then 
                 bindO v247[(Int.toNat v296)]? fun x301 =>
                 bif (decide (x301.2.2.1 ≤ (0 : Int))) then
                  some (Sum.inl ((Go.IntKind.wrap .i64 (v296 + (1 : Int))), (Go.IntKind.wrap .i64 (v297 + (1 : Int)))))
                 else
                  some (Sum.inl ((Go.IntKind.wrap .i64 (v296 + (1 : Int))), v297))
                else none
               else
                some (Sum.inl ((Go.IntKind.wrap .i64 (v296 + (1 : Int))), v297))
              else none
             else
              some (Sum.inl ((Go.IntKind.wrap .i64 (v296 + (1 : Int))), v297))
            else none
           else
            some (Sum.inl ((Go.IntKind.wrap .i64 (v296 + (1 : Int))), v297))
          else none
         else
          outO (some (Sum.inl v297))) 1000 ((0 : Int), (0 : Int))) fun v308 =>
       some (Sum.inl v308)) fun v309 =>
      bif (decide (v309 = (0 : Int))) then
       joinO (joinO (loopF (fun (v310, v311) =>
          bif (decide (v310 < (((List.length v247) : Nat) : Int))) then
           bif (decide (((0 : Int) ≤ v310) ∧ (v310 < (((List.length v247) : Nat) : Int)))) then 
            bindO v247[(Int.toNat v310)]? fun x312 =>
            bif (decide (x312.2.1 = (5 : Int))) then
             bif (decide (((0 : Int) ≤ v310) ∧ (v310 < (((List.length v247) : Nat) : Int)))) then 
              bindO v247[(Int.toNat v310)]? fun x313 =>
              bif (decide (x313.1 ≤ (32000 : Int))) then
               bif (decide (((0 : Int) ≤ v310) ∧ (v310 < (((List.length v247) : Nat) : Int)))) then 
                bindO v247[(Int.toNat v310)]? fun x314 =>
                bif (decide (x314.2.2.1 ≥ (0 : Int))) then
                 bif (decide (((0 : Int) ≤ v310) ∧ (v310 < (((List.length v247) : Nat) : Int)))) then 
                  bindO v247[(Int.toNat v310)]? fun x315 =>
                  bif (decide (x315.2.2.1 ≤ (0 : Int))) then
                   some (Sum.inl ((Go.IntKind.wrap .i64 (v310 + (1 : Int))), (Go.IntKind.wrap .i64 (v311 + (1 : Int)))))
                  else
                   some (Sum.inl ((Go.IntKind.wrap .i64 (v310 + (1 : Int))), v311))
                 else none
                else
                 some (Sum.inl ((Go.IntKind.wrap .i64 (v310 + (1 : Int))), v311))
               else none
              else
               some (Sum.inl ((Go.IntKind.wrap .i64 (v310 + (1 : Int))), v311))
             else none
            else
             some (Sum.inl ((Go.IntKind.wrap .i64 (v310 + (1 : Int))), v311))
           else none
          else
           outO (some (Sum.inl v311))) 1000 ((0 : Int), (0 : Int))) fun v322 =>
        some (Sum.inl v322)) fun v323 =>
       bif (decide (v323 = (1 : Int))) then
        joinO (joinO (loopF (fun (v324, v325) =>
           bif (decide (v324 < (((List.length v247) : Nat) : Int))) then
            bif (decide (((0 : Int) ≤ v324) ∧ (v324 < (((List.length v247) : Nat) : Int)))) then 
             bindO v247[(Int.toNat v324)]? fun x326 =>
             bif (decide (x326.2.1 = (7 : Int))) then
              bif (decide (((0 : Int) ≤ v324) ∧ (v324 < (((List.length v247) : Nat) : Int)))) then 
               bindO v247[(Int.toNat v324)]? fun x327 =>
               bif (decide (x327.1 ≤ (32000 : Int))) then
                bif (decide (((0 : Int) ≤ v324) ∧ (v324 < (((List.length v247) : Nat) : Int)))) then 
                 bindO v247[(Int.toNat v324)]? fun x328 =>
                 bif (decide (x328.2.2.1 ≥ (0 : Int))) then
                  bif (decide (((0 : Int) ≤ v324) ∧ (v324 < (((List.length v247) : Nat) : Int)))) then 
                   bindO v247[(Int.toNat v324)]? fun x329 =>
                   bif (decide (x329.2.2.1 ≤ (0 : Int))) then
                    some (Sum.inl ((Go.IntKind.wrap .i64 (v324 + (1 : Int))), (Go.IntKind.wrap .i64 (v325 + (1 : Int)))))
                   else
                    some (Sum.inl ((Go.IntKind.wrap .i64 (v324 + (1 : Int))), v325))
                  else none
                 else
                  some (Sum.inl ((Go.IntKind.wrap .i64 (v324 + (1 : Int))), v325))
                else none
               else
                some (Sum.inl ((Go.IntKind.wrap .i64 (v324 + (1 : Int))), v325))
              else none
             else
              some (Sum.inl ((Go.IntKind.wrap .i64 (v324 + (1 : Int))), v325))
            else none
           else
            outO (some (Sum.inl v325))) 1000 ((0 : Int), (0 : Int))) fun v336 =>
         some (Sum.inl v336)) fun v337 =>
        bif (decide (v337 = (1 : Int))) then
         joinO (joinO (joinO (loopF (fun (v338, v339) =>
             bif (decide (v338 < (((List.length v247) : Nat) : Int))) then
              bif (decide (((0 : Int) ≤ v338) ∧ (v338 < (((List.length v247) : Nat) : Int)))) then 
               bindO v247[(Int.toNat v338)]? fun x340 =>
               bif (decide (x340.2.1 = (7 : Int))) then
                bif (decide (((0 : Int) ≤ v338) ∧ (v338 < (((List.length v247) : Nat) : Int)))) then 
                 bindO v247[(Int.toNat v338)]? fun x341 =>
                 bif (r x341.1) then
                  bif (decide (((0 : Int) ≤ v338) ∧ (v338 < (((List.length v247) : Nat) : Int)))) then 
                   bindO v247[(Int.toNat v338)]? fun x342 =>
                   bif (decide (x342.2.2.1 ≥ (0 : Int))) then
                    bif (decide (((0 : Int) ≤ v338) ∧ (v338 < (((List.length v247) : Nat) : Int)))) then 
                     bindO v247[(Int.toNat v338)]? fun x343 =>
                     bif (decide (x343.2.2.1 ≤ (1000 : Int))) then
                      some (Sum.inl ((Go.IntKind.wrap .i64 (v338 + (1 : Int))), (Go.IntKind.wrap .i64 (v339 + (1 : Int)))))
                     else
                      some (Sum.inl ((Go.IntKind.wrap .i64 (v338 + (1 : Int))), v339))
                    else none
                   else
                    some (Sum.inl ((Go.IntKind.wrap .i64 (v338 + (1 : Int))), v339))
                  else none
                 else
                  some (Sum.inl ((Go.IntKind.wrap .i64 (v338 + (1 : Int))), v339))
                else none
               else
                some (Sum.inl ((Go.IntKind.wrap .i64 (v338 + (1 : Int))), v339))
              else none
             else
              outO (some (Sum.inl v339))) 1000 ((0 : Int), (0 : Int))) fun v350 =>
           some (Sum.inl v350)) fun v351 =>
          bif (decide (v351 > (1 : Int))) then
           some (Sum.inl Bool.false)
          else
           bif ((decide (v351 = (1 : Int))) != (decide (v229 = (7 : Int)))) then
            some (Sum.inl Bool.false)
           else
            bif (decide (v351 = (0 : Int))) then
             some (Sum.inl Bool.true)
            else
             bif (decide ((((List.length v247) : Nat) : Int) > (0 : Int))) then
              bindO (some (Go.IntKind.wrap .i64 ((((List.length v247) : Nat) : Int) - (1 : Int)))) fun x352 =>
              bif (decide (((0 : Int) ≤ x352) ∧ (x352 < (((List.length v247) : Nat) : Int)))) then 
               bindO v247[(Int.toNat x352)]? fun x353 =>
               some (Sum.inl (decide (x353.2.1 = (7 : Int))))
              else none
             else
              some (Sum.inl Bool.false)) fun v354 =>
         bif v354 then
          some Bool.true
         else
          some Bool.false
        else
         some Bool.false
       else
        some Bool.false
      else
       some Bool.false
     else
      some Bool.false
theorem alonePre_le (a1 : Int) (q : Int → Bool) (hw : Go.IntKind.wrap .i64 a1 = a1) (hq : ∀ x, q x = decide (x ≤ a1)) (K : _) : LeO (alonePreF q a1 K) (alonePre a1 K) := by
  have hq' : q = fun x => decide (x ≤ a1) := funext hq
  subst hq'
  unfold alonePreF alonePre
  rw [hw]
  repeat' (first | (with_reducible first | exact LeO.refl _ | apply LeO.bind | apply LeO.join | apply LeO.out | apply LeO.cond | apply LeO.loop) | (with_reducible first | exact client_Step_le _ | exact client_Start_le _) | (intro p; obtain ⟨a, p⟩ := p) | intro _ | dsimp only)
end Go.Proofs.Ytohhpcggahlpjaa
