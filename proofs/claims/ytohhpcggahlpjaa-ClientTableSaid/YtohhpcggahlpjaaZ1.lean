/- Trees of functions, printed by the executor. -/
import Derived.Test.YtohhpcggahlpjaaF
import Derived.Test.YtohhpcggahlpjaaXB
import Derived.Test.YtohhpcggahlpjaaL
set_option linter.unusedVariables false
set_option maxRecDepth 1000000
set_option maxHeartbeats 0
namespace Go.Proofs.Ytohhpcggahlpjaa
open Go.RowKit
/-! ### dialtone/client.Start -/
def plan16 : List (Nat × PL) := []
noncomputable def client_Start : PUnit → Option ((Int × (Int × Int)) × (List (Int × (Int × (Int × Int))))) := fun _ =>
  some (((2 : Int), ((500 : Int), (0 : Int))), (((1 : Int), ((0 : Int), ((0 : Int), (0 : Int)))) :: (((4 : Int), ((0 : Int), ((5 : Int), (500 : Int)))) :: (((4 : Int), ((0 : Int), ((6 : Int), (32000 : Int)))) :: ([] : List (Int × (Int × (Int × Int))))))))
noncomputable def cons16 : List (Nat × CE) := [(10, ⟨[], riB, (fun _ => some true)⟩)]
theorem cons16_ok : ConL Try.prog cons16 := ⟨con_true (by kernel_rfl) lives_o, trivial⟩
theorem con16 : ConOk Try.prog 16 ⟨[], [(.tmp 0 true [(.dat (.int .u8)), (.dat (.int .i64)), (.dat (.int .i64))]), (.tmp 1 false [(.dat (.list (.pair (.int .u8) (.pair (.int .i64) (.pair (.int .u8) (.int .i64))))))])], client_Start⟩ :=
  tree_ok (plan := planOf plan16) (eg := egNo) KK tabL_ok (conOf_ok cons16_ok) Try.func16 (by kernel_rfl) (by kernel_rfl) 10000 (fun a r h => Eq.trans (show _ = client_Start a from by kernel_rfl) h)
/-! ### dialtone/dialtoneref13.Start -/
def plan17 : List (Nat × PL) := []
noncomputable def dialtoneref13_Start : PUnit → Option ((Int × (Int × Int)) × (List (Int × (Int × (Int × Int))))) := fun _ =>
  some (((2 : Int), ((500 : Int), (0 : Int))), (((1 : Int), ((0 : Int), ((0 : Int), (0 : Int)))) :: (((4 : Int), ((0 : Int), ((5 : Int), (500 : Int)))) :: (((4 : Int), ((0 : Int), ((6 : Int), (32000 : Int)))) :: ([] : List (Int × (Int × (Int × Int))))))))
noncomputable def cons17 : List (Nat × CE) := [(10, ⟨[], riB, (fun _ => some true)⟩), (16, ⟨[], [(.tmp 0 true [(.dat (.int .u8)), (.dat (.int .i64)), (.dat (.int .i64))]), (.tmp 1 false [(.dat (.list (.pair (.int .u8) (.pair (.int .i64) (.pair (.int .u8) (.int .i64))))))])], client_Start⟩)]
theorem cons17_ok : ConL Try.prog cons17 := ⟨con_true (by kernel_rfl) lives_o, con16, trivial⟩
theorem con17 : ConOk Try.prog 17 ⟨[], [(.tmp 0 true [(.dat (.int .u8)), (.dat (.int .i64)), (.dat (.int .i64))]), (.tmp 1 false [(.dat (.list (.pair (.int .u8) (.pair (.int .i64) (.pair (.int .u8) (.int .i64))))))])], dialtoneref13_Start⟩ :=
  tree_ok (plan := planOf plan17) (eg := egNo) KK tabL_ok (conOf_ok cons17_ok) Try.func17 (by kernel_rfl) (by kernel_rfl) 10000 (fun a r h => Eq.trans (show _ = dialtoneref13_Start a from by kernel_rfl) h)
/-! ### dialtone/client.May -/
def plan14 : List (Nat × PL) := [(35253091829761, (.carry [.tmp 5 false [(.dat .bool)]]))]
noncomputable def client_May : (Int × (Int × Int)) → Option Bool := fun (a1, (a2, a3)) =>
  joinO (bif (decide (a1 = (2 : Int))) then
    some (Sum.inl Bool.true)
   else
    some (Sum.inl (decide (a1 = (3 : Int))))) fun v4 =>
  bif v4 then
   bif (decide (a3 = (0 : Int))) then
    bif (decide (a2 = (500 : Int))) then
     some Bool.true
    else
     bif (decide (a2 = (1000 : Int))) then
      some Bool.true
     else
      bif (decide (a2 = (2000 : Int))) then
       some Bool.true
      else
       some (decide (a2 = (4000 : Int)))
   else
    some Bool.false
  else
   bif (decide (a1 = (5 : Int))) then
    bif (decide (a2 = (0 : Int))) then
     bif (decide (a3 ≥ (200 : Int))) then
      some (decide (a3 ≤ (699 : Int)))
     else
      some Bool.false
    else
     some Bool.false
   else
    bif (decide (a1 = (7 : Int))) then
     bif (decide (a2 = (0 : Int))) then
      bif (decide (a3 = (0 : Int))) then
       some Bool.true
      else
       bif (decide (a3 ≥ (200 : Int))) then
        some (decide (a3 ≤ (699 : Int)))
       else
        some Bool.false
     else
      some Bool.false
    else
     some Bool.false
noncomputable def cons14 : List (Nat × CE) := [(10, ⟨[], riB, (fun _ => some true)⟩), (16, ⟨[], [(.tmp 0 true [(.dat (.int .u8)), (.dat (.int .i64)), (.dat (.int .i64))]), (.tmp 1 false [(.dat (.list (.pair (.int .u8) (.pair (.int .i64) (.pair (.int .u8) (.int .i64))))))])], client_Start⟩), (17, ⟨[], [(.tmp 0 true [(.dat (.int .u8)), (.dat (.int .i64)), (.dat (.int .i64))]), (.tmp 1 false [(.dat (.list (.pair (.int .u8) (.pair (.int .i64) (.pair (.int .u8) (.int .i64))))))])], dialtoneref13_Start⟩)]
theorem cons14_ok : ConL Try.prog cons14 := ⟨con_true (by kernel_rfl) lives_o, con16, con17, trivial⟩
theorem con14 : ConOk Try.prog 14 ⟨[(.tmp 0 true [(.dat (.int .u8)), (.dat (.int .i64)), (.dat (.int .i64))])], [(.tmp 0 false [(.dat .bool)])], client_May⟩ :=
  tree_ok (plan := planOf plan14) (eg := egNo) KK tabL_ok (conOf_ok cons14_ok) Try.func14 (by kernel_rfl) (by kernel_rfl) 10000 (fun a r h => Eq.trans (show _ = client_May a from by kernel_rfl) h)
/-! ### dialtone/dialtoneref13.Short -/
def plan34 : List (Nat × PL) := []
noncomputable def dialtoneref13_Short : (Int × (Int × Int)) → Option Bool := fun (a1, (a2, a3)) =>
  bif (decide (a2 = (500 : Int))) then
   some Bool.true
  else
   bif (decide (a2 = (1000 : Int))) then
    some Bool.true
   else
    bif (decide (a2 = (2000 : Int))) then
     some Bool.true
    else
     some (decide (a2 = (4000 : Int)))
noncomputable def cons34 : List (Nat × CE) := [(10, ⟨[], riB, (fun _ => some true)⟩), (16, ⟨[], [(.tmp 0 true [(.dat (.int .u8)), (.dat (.int .i64)), (.dat (.int .i64))]), (.tmp 1 false [(.dat (.list (.pair (.int .u8) (.pair (.int .i64) (.pair (.int .u8) (.int .i64))))))])], client_Start⟩), (17, ⟨[], [(.tmp 0 true [(.dat (.int .u8)), (.dat (.int .i64)), (.dat (.int .i64))]), (.tmp 1 false [(.dat (.list (.pair (.int .u8) (.pair (.int .i64) (.pair (.int .u8) (.int .i64))))))])], dialtoneref13_Start⟩), (14, ⟨[(.tmp 0 true [(.dat (.int .u8)), (.dat (.int .i64)), (.dat (.int .i64))])], [(.tmp 0 false [(.dat .bool)])], client_May⟩)]
theorem cons34_ok : ConL Try.prog cons34 := ⟨con_true (by kernel_rfl) lives_o, con16, con17, con14, trivial⟩
theorem con34 : ConOk Try.prog 34 ⟨[(.tmp 0 true [(.dat (.int .u8)), (.dat (.int .i64)), (.dat (.int .i64))])], [(.tmp 0 false [(.dat .bool)])], dialtoneref13_Short⟩ :=
  tree_ok (plan := planOf plan34) (eg := egNo) KK tabL_ok (conOf_ok cons34_ok) Try.func34 (by kernel_rfl) (by kernel_rfl) 10000 (fun a r h => Eq.trans (show _ = dialtoneref13_Short a from by kernel_rfl) h)
/-! ### dialtone/dialtoneref12.From -/
def plan35 : List (Nat × PL) := []
noncomputable def dialtoneref12_From : (Int × (Int × Int)) → Option Bool := fun (a1, (a2, a3)) =>
  bif (decide (a1 ≥ a2)) then
   some (decide (a1 ≤ a3))
  else
   some Bool.false
noncomputable def cons35 : List (Nat × CE) := [(10, ⟨[], riB, (fun _ => some true)⟩), (16, ⟨[], [(.tmp 0 true [(.dat (.int .u8)), (.dat (.int .i64)), (.dat (.int .i64))]), (.tmp 1 false [(.dat (.list (.pair (.int .u8) (.pair (.int .i64) (.pair (.int .u8) (.int .i64))))))])], client_Start⟩), (17, ⟨[], [(.tmp 0 true [(.dat (.int .u8)), (.dat (.int .i64)), (.dat (.int .i64))]), (.tmp 1 false [(.dat (.list (.pair (.int .u8) (.pair (.int .i64) (.pair (.int .u8) (.int .i64))))))])], dialtoneref13_Start⟩), (14, ⟨[(.tmp 0 true [(.dat (.int .u8)), (.dat (.int .i64)), (.dat (.int .i64))])], [(.tmp 0 false [(.dat .bool)])], client_May⟩), (34, ⟨[(.tmp 0 true [(.dat (.int .u8)), (.dat (.int .i64)), (.dat (.int .i64))])], [(.tmp 0 false [(.dat .bool)])], dialtoneref13_Short⟩)]
theorem cons35_ok : ConL Try.prog cons35 := ⟨con_true (by kernel_rfl) lives_o, con16, con17, con14, con34, trivial⟩
theorem con35 : ConOk Try.prog 35 ⟨[(.tmp 0 false [(.dat (.int .i64))]), (.tmp 1 false [(.dat (.int .i64))]), (.tmp 2 false [(.dat (.int .i64))])], [(.tmp 0 false [(.dat .bool)])], dialtoneref12_From⟩ :=
  tree_ok (plan := planOf plan35) (eg := egNo) KK tabL_ok (conOf_ok cons35_ok) Try.func35 (by kernel_rfl) (by kernel_rfl) 10000 (fun a r h => Eq.trans (show _ = dialtoneref12_From a from by kernel_rfl) h)
/-! ### dialtone/dialtoneref13.May -/
def plan28 : List (Nat × PL) := [(35253091829761, (.carry [.tmp 5 false [(.dat .bool)]]))]
noncomputable def dialtoneref13_May : (Int × (Int × Int)) → Option Bool := fun (a1, (a2, a3)) =>
  joinO (bif (decide (a1 = (2 : Int))) then
    some (Sum.inl Bool.true)
   else
    some (Sum.inl (decide (a1 = (3 : Int))))) fun v4 =>
  bif v4 then
   bindO (dialtoneref13_Short (a1, (a2, a3))) fun x5 =>
   bif x5 then
    some (decide (a3 = (0 : Int)))
   else
    some Bool.false
  else
   bif (decide (a1 = (5 : Int))) then
    bif (decide (a2 = (0 : Int))) then
     bindO (dialtoneref12_From (a3, ((200 : Int), (699 : Int)))) fun x6 =>
     some x6
    else
     some Bool.false
   else
    bif (decide (a1 = (7 : Int))) then
     bif (decide (a2 = (0 : Int))) then
      bif (decide (a3 = (0 : Int))) then
       some Bool.true
      else
       bindO (dialtoneref12_From (a3, ((200 : Int), (699 : Int)))) fun x7 =>
       some x7
     else
      some Bool.false
    else
     some Bool.false
noncomputable def cons28 : List (Nat × CE) := [(10, ⟨[], riB, (fun _ => some true)⟩), (16, ⟨[], [(.tmp 0 true [(.dat (.int .u8)), (.dat (.int .i64)), (.dat (.int .i64))]), (.tmp 1 false [(.dat (.list (.pair (.int .u8) (.pair (.int .i64) (.pair (.int .u8) (.int .i64))))))])], client_Start⟩), (17, ⟨[], [(.tmp 0 true [(.dat (.int .u8)), (.dat (.int .i64)), (.dat (.int .i64))]), (.tmp 1 false [(.dat (.list (.pair (.int .u8) (.pair (.int .i64) (.pair (.int .u8) (.int .i64))))))])], dialtoneref13_Start⟩), (14, ⟨[(.tmp 0 true [(.dat (.int .u8)), (.dat (.int .i64)), (.dat (.int .i64))])], [(.tmp 0 false [(.dat .bool)])], client_May⟩), (34, ⟨[(.tmp 0 true [(.dat (.int .u8)), (.dat (.int .i64)), (.dat (.int .i64))])], [(.tmp 0 false [(.dat .bool)])], dialtoneref13_Short⟩), (35, ⟨[(.tmp 0 false [(.dat (.int .i64))]), (.tmp 1 false [(.dat (.int .i64))]), (.tmp 2 false [(.dat (.int .i64))])], [(.tmp 0 false [(.dat .bool)])], dialtoneref12_From⟩)]
theorem cons28_ok : ConL Try.prog cons28 := ⟨con_true (by kernel_rfl) lives_o, con16, con17, con14, con34, con35, trivial⟩
theorem con28 : ConOk Try.prog 28 ⟨[(.tmp 0 true [(.dat (.int .u8)), (.dat (.int .i64)), (.dat (.int .i64))])], [(.tmp 0 false [(.dat .bool)])], dialtoneref13_May⟩ :=
  tree_ok (plan := planOf plan28) (eg := egNo) KK tabL_ok (conOf_ok cons28_ok) Try.func28 (by kernel_rfl) (by kernel_rfl) 10000 (fun a r h => Eq.trans (show _ = dialtoneref13_May a from by kernel_rfl) h)
/-! ### dialtone/client.Step -/
def plan24 : List (Nat × PL) := [(35253226045462, .unroll)]
noncomputable def client_Step : ((Int × (Int × Int)) × (Int × (Int × Int))) → Option ((Int × (Int × Int)) × (List (Int × (Int × (Int × Int))))) := fun ((a1, (a2, a3)), (a4, (a5, a6))) =>
  bindO (client_May (a1, (a2, a3))) fun x7 =>
  bif (!x7) then
   some (((0 : Int), ((0 : Int), (0 : Int))), ([] : List (Int × (Int × (Int × Int)))))
  else
   bif (decide (((0 : Int) ≤ a1) ∧ (a1 < (8 : Int)))) then 
    bif (decide ((Int.toNat a1) = 7)) then
     bif (!((decide (a1 = a1)) && ((decide (a2 = a2)) && (decide (a3 = a3))))) then
      bif (decide (a1 = (7 : Int))) then
       bindO (some (((7 : Int), ((0 : Int), ((0 : Int), (0 : Int)))) :: ([] : List (Int × (Int × (Int × Int)))))) fun x8 =>
       bif (decide ((List.length x8) ≤ (List.length x8))) then 
        some ((a1, (a2, a3)), (List.take (List.length x8) x8))
       else none
      else
       some ((a1, (a2, a3)), ([] : List (Int × (Int × (Int × Int)))))
     else
      some ((a1, (a2, a3)), ([] : List (Int × (Int × (Int × Int)))))
    else
     bif (decide ((Int.toNat a1) = 6)) then
      none /- "call of what" -/
     else
      bif (decide ((Int.toNat a1) = 5)) then
       bif (decide (a4 = (5 : Int))) then
        bif (decide (a6 = (11 : Int))) then
         bif (!((decide ((7 : Int) = a1)) && ((decide ((0 : Int) = a2)) && (decide (a3 = a3))))) then
          bindO (some (((7 : Int), ((0 : Int), ((0 : Int), (0 : Int)))) :: ([] : List (Int × (Int × (Int × Int)))))) fun x9 =>
          bif (decide ((List.length x9) ≤ (List.length x9))) then 
           some (((7 : Int), ((0 : Int), a3)), (List.take (List.length x9) x9))
          else none
         else
          some (((7 : Int), ((0 : Int), a3)), ([] : List (Int × (Int × (Int × Int)))))
        else
         bif (!((decide (a1 = a1)) && ((decide (a2 = a2)) && (decide (a3 = a3))))) then
          bif (decide (a1 = (7 : Int))) then
           bindO (some (((7 : Int), ((0 : Int), ((0 : Int), (0 : Int)))) :: ([] : List (Int × (Int × (Int × Int)))))) fun x10 =>
           bif (decide ((List.length x10) ≤ (List.length x10))) then 
            some ((a1, (a2, a3)), (List.take (List.length x10) x10))
           else none
          else
           some ((a1, (a2, a3)), ([] : List (Int × (Int × (Int × Int)))))
         else
          some ((a1, (a2, a3)), ([] : List (Int × (Int × (Int × Int)))))
       else
        bif (!((decide (a1 = a1)) && ((decide (a2 = a2)) && (decide (a3 = a3))))) then
         bif (decide (a1 = (7 : Int))) then
          bindO (some (((7 : Int), ((0 : Int), ((0 : Int), (0 : Int)))) :: ([] : List (Int × (Int × (Int × Int)))))) fun x11 =>
          bif (decide ((List.length x11) ≤ (List.length x11))) then 
           some ((a1, (a2, a3)), (List.take (List.length x11) x11))
          else none
         else
          some ((a1, (a2, a3)), ([] : List (Int × (Int × (Int × Int)))))
        else
         some ((a1, (a2, a3)), ([] : List (Int × (Int × (Int × Int)))))
      else
       bif (decide ((Int.toNat a1) = 4)) then
        none /- "call of what" -/
       else
        bif (decide ((Int.toNat a1) = 3)) then
         bif (decide (a4 = (5 : Int))) then
          bif (decide (a6 = (5 : Int))) then
           bif (decide (a1 = (2 : Int))) then
            bindO (some (Go.IntKind.wrap .i64 ((2 : Int) * a2))) fun x12 =>
            bif (!((decide (a1 = a1)) && ((decide ((minA x12 (4000 : Int)) = a2)) && (decide (a3 = a3))))) then
             bif (decide (a1 = (7 : Int))) then
              bindO (some (((1 : Int), ((0 : Int), ((0 : Int), (0 : Int)))) :: (((4 : Int), ((0 : Int), ((5 : Int), (minA x12 (4000 : Int))))) :: (((7 : Int), ((0 : Int), ((0 : Int), (0 : Int)))) :: ([] : List (Int × (Int × (Int × Int)))))))) fun x13 =>
              bif (decide ((List.length x13) ≤ (List.length x13))) then 
               some ((a1, ((minA x12 (4000 : Int)), a3)), (List.take (List.length x13) x13))
              else none
             else
              some ((a1, ((minA x12 (4000 : Int)), a3)), (((1 : Int), ((0 : Int), ((0 : Int), (0 : Int)))) :: (((4 : Int), ((0 : Int), ((5 : Int), (minA x12 (4000 : Int))))) :: ([] : List (Int × (Int × (Int × Int)))))))
            else
             some ((a1, ((minA x12 (4000 : Int)), a3)), (((1 : Int), ((0 : Int), ((0 : Int), (0 : Int)))) :: (((4 : Int), ((0 : Int), ((5 : Int), (minA x12 (4000 : Int))))) :: ([] : List (Int × (Int × (Int × Int)))))))
           else
            bif (!((decide (a1 = a1)) && ((decide ((4000 : Int) = a2)) && (decide (a3 = a3))))) then
             bif (decide (a1 = (7 : Int))) then
              bindO (some (((1 : Int), ((0 : Int), ((0 : Int), (0 : Int)))) :: (((4 : Int), ((0 : Int), ((5 : Int), (4000 : Int)))) :: (((7 : Int), ((0 : Int), ((0 : Int), (0 : Int)))) :: ([] : List (Int × (Int × (Int × Int)))))))) fun x14 =>
              bif (decide ((List.length x14) ≤ (List.length x14))) then 
               some ((a1, ((4000 : Int), a3)), (List.take (List.length x14) x14))
              else none
             else
              some ((a1, ((4000 : Int), a3)), (((1 : Int), ((0 : Int), ((0 : Int), (0 : Int)))) :: (((4 : Int), ((0 : Int), ((5 : Int), (4000 : Int)))) :: ([] : List (Int × (Int × (Int × Int)))))))
            else
             some ((a1, ((4000 : Int), a3)), (((1 : Int), ((0 : Int), ((0 : Int), (0 : Int)))) :: (((4 : Int), ((0 : Int), ((5 : Int), (4000 : Int)))) :: ([] : List (Int × (Int × (Int × Int)))))))
          else
           bif (decide (a4 = (5 : Int))) then
            bif (decide (a6 = (6 : Int))) then
             bif (!((decide ((7 : Int) = a1)) && ((decide ((0 : Int) = a2)) && (decide (a3 = a3))))) then
              bindO (some (((5 : Int), ((0 : Int), ((0 : Int), (0 : Int)))) :: (((7 : Int), ((0 : Int), ((0 : Int), (0 : Int)))) :: ([] : List (Int × (Int × (Int × Int))))))) fun x15 =>
              bif (decide ((List.length x15) ≤ (List.length x15))) then 
               some (((7 : Int), ((0 : Int), a3)), (List.take (List.length x15) x15))
              else none
             else
              some (((7 : Int), ((0 : Int), a3)), (((5 : Int), ((0 : Int), ((0 : Int), (0 : Int)))) :: ([] : List (Int × (Int × (Int × Int))))))
            else
             bif (decide (a4 = (6 : Int))) then
              bif (!((decide ((7 : Int) = a1)) && ((decide ((0 : Int) = a2)) && (decide (a3 = a3))))) then
               bindO (some (((6 : Int), ((0 : Int), ((0 : Int), (0 : Int)))) :: (((7 : Int), ((0 : Int), ((0 : Int), (0 : Int)))) :: ([] : List (Int × (Int × (Int × Int))))))) fun x16 =>
               bif (decide ((List.length x16) ≤ (List.length x16))) then 
                some (((7 : Int), ((0 : Int), a3)), (List.take (List.length x16) x16))
               else none
              else
               some (((7 : Int), ((0 : Int), a3)), (((6 : Int), ((0 : Int), ((0 : Int), (0 : Int)))) :: ([] : List (Int × (Int × (Int × Int))))))
             else
              bif (decide (a4 = (2 : Int))) then
               bif (decide (a5 ≥ (100 : Int))) then
                bif (decide (a5 ≤ (199 : Int))) then
                 bif (!((decide ((3 : Int) = a1)) && ((decide (a2 = a2)) && (decide (a3 = a3))))) then
                  some (((3 : Int), (a2, a3)), (((3 : Int), (a5, ((0 : Int), (0 : Int)))) :: ([] : List (Int × (Int × (Int × Int))))))
                 else
                  some (((3 : Int), (a2, a3)), (((3 : Int), (a5, ((0 : Int), (0 : Int)))) :: ([] : List (Int × (Int × (Int × Int))))))
                else
                 bif (decide (a4 = (2 : Int))) then
                  bif (decide (a5 ≥ (200 : Int))) then
                   bif (decide (a5 ≤ (699 : Int))) then
                    bif (!((decide ((5 : Int) = a1)) && ((decide ((0 : Int) = a2)) && (decide (a5 = a3))))) then
                     some (((5 : Int), ((0 : Int), a5)), (((3 : Int), (a5, ((0 : Int), (0 : Int)))) :: (((4 : Int), ((0 : Int), ((11 : Int), (5000 : Int)))) :: ([] : List (Int × (Int × (Int × Int)))))))
                    else
                     some (((5 : Int), ((0 : Int), a5)), (((3 : Int), (a5, ((0 : Int), (0 : Int)))) :: (((4 : Int), ((0 : Int), ((11 : Int), (5000 : Int)))) :: ([] : List (Int × (Int × (Int × Int)))))))
                   else
                    bif (!((decide (a1 = a1)) && ((decide (a2 = a2)) && (decide (a3 = a3))))) then
                     bif (decide (a1 = (7 : Int))) then
                      bindO (some (((7 : Int), ((0 : Int), ((0 : Int), (0 : Int)))) :: ([] : List (Int × (Int × (Int × Int)))))) fun x17 =>
                      bif (decide ((List.length x17) ≤ (List.length x17))) then 
                       some ((a1, (a2, a3)), (List.take (List.length x17) x17))
                      else none
                     else
                      some ((a1, (a2, a3)), ([] : List (Int × (Int × (Int × Int)))))
                    else
                     some ((a1, (a2, a3)), ([] : List (Int × (Int × (Int × Int)))))
                  else
                   bif (!((decide (a1 = a1)) && ((decide (a2 = a2)) && (decide (a3 = a3))))) then
                    bif (decide (a1 = (7 : Int))) then
                     bindO (some (((7 : Int), ((0 : Int), ((0 : Int), (0 : Int)))) :: ([] : List (Int × (Int × (Int × Int)))))) fun x18 =>
                     bif (decide ((List.length x18) ≤ (List.length x18))) then 
                      some ((a1, (a2, a3)), (List.take (List.length x18) x18))
                     else none
                    else
                     some ((a1, (a2, a3)), ([] : List (Int × (Int × (Int × Int)))))
                   else
                    some ((a1, (a2, a3)), ([] : List (Int × (Int × (Int × Int)))))
                 else
                  bif (!((decide (a1 = a1)) && ((decide (a2 = a2)) && (decide (a3 = a3))))) then
                   bif (decide (a1 = (7 : Int))) then
                    bindO (some (((7 : Int), ((0 : Int), ((0 : Int), (0 : Int)))) :: ([] : List (Int × (Int × (Int × Int)))))) fun x19 =>
                    bif (decide ((List.length x19) ≤ (List.length x19))) then 
                     some ((a1, (a2, a3)), (List.take (List.length x19) x19))
                    else none
                   else
                    some ((a1, (a2, a3)), ([] : List (Int × (Int × (Int × Int)))))
                  else
                   some ((a1, (a2, a3)), ([] : List (Int × (Int × (Int × Int)))))
               else
                bif (decide (a4 = (2 : Int))) then
                 bif (decide (a5 ≥ (200 : Int))) then
                  bif (decide (a5 ≤ (699 : Int))) then
                   bif (!((decide ((5 : Int) = a1)) && ((decide ((0 : Int) = a2)) && (decide (a5 = a3))))) then
                    some (((5 : Int), ((0 : Int), a5)), (((3 : Int), (a5, ((0 : Int), (0 : Int)))) :: (((4 : Int), ((0 : Int), ((11 : Int), (5000 : Int)))) :: ([] : List (Int × (Int × (Int × Int)))))))
                   else
                    some (((5 : Int), ((0 : Int), a5)), (((3 : Int), (a5, ((0 : Int), (0 : Int)))) :: (((4 : Int), ((0 : Int), ((11 : Int), (5000 : Int)))) :: ([] : List (Int × (Int × (Int × Int)))))))
                  else
                   bif (!((decide (a1 = a1)) && ((decide (a2 = a2)) && (decide (a3 = a3))))) then
                    bif (decide (a1 = (7 : Int))) then
                     bindO (some (((7 : Int), ((0 : Int), ((0 : Int), (0 : Int)))) :: ([] : List (Int × (Int × (Int × Int)))))) fun x20 =>
                     bif (decide ((List.length x20) ≤ (List.length x20))) then 
                      some ((a1, (a2, a3)), (List.take (List.length x20) x20))
                     else none
                    else
                     some ((a1, (a2, a3)), ([] : List (Int × (Int × (Int × Int)))))
                   else
                    some ((a1, (a2, a3)), ([] : List (Int × (Int × (Int × Int)))))
                 else
                  bif (!((decide (a1 = a1)) && ((decide (a2 = a2)) && (decide (a3 = a3))))) then
                   bif (decide (a1 = (7 : Int))) then
                    bindO (some (((7 : Int), ((0 : Int), ((0 : Int), (0 : Int)))) :: ([] : List (Int × (Int × (Int × Int)))))) fun x21 =>
                    bif (decide ((List.length x21) ≤ (List.length x21))) then 
                     some ((a1, (a2, a3)), (List.take (List.length x21) x21))
                    else none
                   else
                    some ((a1, (a2, a3)), ([] : List (Int × (Int × (Int × Int)))))
                  else
                   some ((a1, (a2, a3)), ([] : List (Int × (Int × (Int × Int)))))
                else
                 bif (!((decide (a1 = a1)) && ((decide (a2 = a2)) && (decide (a3 = a3))))) then
                  bif (decide (a1 = (7 : Int))) then
                   bindO (some (((7 : Int), ((0 : Int), ((0 : Int), (0 : Int)))) :: ([] : List (Int × (Int × (Int × Int)))))) fun x22 =>
                   bif (decide ((List.length x22) ≤ (List.length x22))) then 
                    some ((a1, (a2, a3)), (List.take (List.length x22) x22))
                   else none
                  else
                   some ((a1, (a2, a3)), ([] : List (Int × (Int × (Int × Int)))))
                 else
                  some ((a1, (a2, a3)), ([] : List (Int × (Int × (Int × Int)))))
              else
               bif (decide (a4 = (2 : Int))) then
                bif (decide (a5 ≥ (200 : Int))) then
                 bif (decide (a5 ≤ (699 : Int))) then
                  bif (!((decide ((5 : Int) = a1)) && ((decide ((0 : Int) = a2)) && (decide (a5 = a3))))) then
                   some (((5 : Int), ((0 : Int), a5)), (((3 : Int), (a5, ((0 : Int), (0 : Int)))) :: (((4 : Int), ((0 : Int), ((11 : Int), (5000 : Int)))) :: ([] : List (Int × (Int × (Int × Int)))))))
                  else
                   some (((5 : Int), ((0 : Int), a5)), (((3 : Int), (a5, ((0 : Int), (0 : Int)))) :: (((4 : Int), ((0 : Int), ((11 : Int), (5000 : Int)))) :: ([] : List (Int × (Int × (Int × Int)))))))
                 else
                  bif (!((decide (a1 = a1)) && ((decide (a2 = a2)) && (decide (a3 = a3))))) then
                   bif (decide (a1 = (7 : Int))) then
                    bindO (some (((7 : Int), ((0 : Int), ((0 : Int), (0 : Int)))) :: ([] : List (Int × (Int × (Int × Int)))))) fun x23 =>
                    bif (decide ((List.length x23) ≤ (List.length x23))) then 
                     some ((a1, (a2, a3)), (List.take (List.length x23) x23))
                    else none
                   else
                    some ((a1, (a2, a3)), ([] : List (Int × (Int × (Int × Int)))))
                  else
                   some ((a1, (a2, a3)), ([] : List (Int × (Int × (Int × Int)))))
                else
                 bif (!((decide (a1 = a1)) && ((decide (a2 = a2)) && (decide (a3 = a3))))) then
                  bif (decide (a1 = (7 : Int))) then
                   bindO (some (((7 : Int), ((0 : Int), ((0 : Int), (0 : Int)))) :: ([] : List (Int × (Int × (Int × Int)))))) fun x24 =>
                   bif (decide ((List.length x24) ≤ (List.length x24))) then 
                    some ((a1, (a2, a3)), (List.take (List.length x24) x24))
                   else none
                  else
                   some ((a1, (a2, a3)), ([] : List (Int × (Int × (Int × Int)))))
                 else
                  some ((a1, (a2, a3)), ([] : List (Int × (Int × (Int × Int)))))
               else
                bif (!((decide (a1 = a1)) && ((decide (a2 = a2)) && (decide (a3 = a3))))) then
                 bif (decide (a1 = (7 : Int))) then
                  bindO (some (((7 : Int), ((0 : Int), ((0 : Int), (0 : Int)))) :: ([] : List (Int × (Int × (Int × Int)))))) fun x25 =>
                  bif (decide ((List.length x25) ≤ (List.length x25))) then 
                   some ((a1, (a2, a3)), (List.take (List.length x25) x25))
                  else none
                 else
                  some ((a1, (a2, a3)), ([] : List (Int × (Int × (Int × Int)))))
                else
                 some ((a1, (a2, a3)), ([] : List (Int × (Int × (Int × Int)))))
           else
            bif (decide (a4 = (6 : Int))) then
             bif (!((decide ((7 : Int) = a1)) && ((decide ((0 : Int) = a2)) && (decide (a3 = a3))))) then
              bindO (some (((6 : Int), ((0 : Int), ((0 : Int), (0 : Int)))) :: (((7 : Int), ((0 : Int), ((0 : Int), (0 : Int)))) :: ([] : List (Int × (Int × (Int × Int))))))) fun x26 =>
              bif (decide ((List.length x26) ≤ (List.length x26))) then 
               some (((7 : Int), ((0 : Int), a3)), (List.take (List.length x26) x26))
              else none
             else
              some (((7 : Int), ((0 : Int), a3)), (((6 : Int), ((0 : Int), ((0 : Int), (0 : Int)))) :: ([] : List (Int × (Int × (Int × Int))))))
            else
             bif (decide (a4 = (2 : Int))) then
              bif (decide (a5 ≥ (100 : Int))) then
               bif (decide (a5 ≤ (199 : Int))) then
                bif (!((decide ((3 : Int) = a1)) && ((decide (a2 = a2)) && (decide (a3 = a3))))) then
                 some (((3 : Int), (a2, a3)), (((3 : Int), (a5, ((0 : Int), (0 : Int)))) :: ([] : List (Int × (Int × (Int × Int))))))
                else
                 some (((3 : Int), (a2, a3)), (((3 : Int), (a5, ((0 : Int), (0 : Int)))) :: ([] : List (Int × (Int × (Int × Int))))))
               else
                bif (decide (a4 = (2 : Int))) then
                 bif (decide (a5 ≥ (200 : Int))) then
                  bif (decide (a5 ≤ (699 : Int))) then
                   bif (!((decide ((5 : Int) = a1)) && ((decide ((0 : Int) = a2)) && (decide (a5 = a3))))) then
                    some (((5 : Int), ((0 : Int), a5)), (((3 : Int), (a5, ((0 : Int), (0 : Int)))) :: (((4 : Int), ((0 : Int), ((11 : Int), (5000 : Int)))) :: ([] : List (Int × (Int × (Int × Int)))))))
                   else
                    some (((5 : Int), ((0 : Int), a5)), (((3 : Int), (a5, ((0 : Int), (0 : Int)))) :: (((4 : Int), ((0 : Int), ((11 : Int), (5000 : Int)))) :: ([] : List (Int × (Int × (Int × Int)))))))
                  else
                   bif (!((decide (a1 = a1)) && ((decide (a2 = a2)) && (decide (a3 = a3))))) then
                    bif (decide (a1 = (7 : Int))) then
                     bindO (some (((7 : Int), ((0 : Int), ((0 : Int), (0 : Int)))) :: ([] : List (Int × (Int × (Int × Int)))))) fun x27 =>
                     bif (decide ((List.length x27) ≤ (List.length x27))) then 
                      some ((a1, (a2, a3)), (List.take (List.length x27) x27))
                     else none
                    else
                     some ((a1, (a2, a3)), ([] : List (Int × (Int × (Int × Int)))))
                   else
                    some ((a1, (a2, a3)), ([] : List (Int × (Int × (Int × Int)))))
                 else
                  bif (!((decide (a1 = a1)) && ((decide (a2 = a2)) && (decide (a3 = a3))))) then
                   bif (decide (a1 = (7 : Int))) then
                    bindO (some (((7 : Int), ((0 : Int), ((0 : Int), (0 : Int)))) :: ([] : List (Int × (Int × (Int × Int)))))) fun x28 =>
                    bif (decide ((List.length x28) ≤ (List.length x28))) then 
                     some ((a1, (a2, a3)), (List.take (List.length x28) x28))
                    else none
                   else
                    some ((a1, (a2, a3)), ([] : List (Int × (Int × (Int × Int)))))
                  else
                   some ((a1, (a2, a3)), ([] : List (Int × (Int × (Int × Int)))))
                else
                 bif (!((decide (a1 = a1)) && ((decide (a2 = a2)) && (decide (a3 = a3))))) then
                  bif (decide (a1 = (7 : Int))) then
                   bindO (some (((7 : Int), ((0 : Int), ((0 : Int), (0 : Int)))) :: ([] : List (Int × (Int × (Int × Int)))))) fun x29 =>
                   bif (decide ((List.length x29) ≤ (List.length x29))) then 
                    some ((a1, (a2, a3)), (List.take (List.length x29) x29))
                   else none
                  else
                   some ((a1, (a2, a3)), ([] : List (Int × (Int × (Int × Int)))))
                 else
                  some ((a1, (a2, a3)), ([] : List (Int × (Int × (Int × Int)))))
              else
               bif (decide (a4 = (2 : Int))) then
                bif (decide (a5 ≥ (200 : Int))) then
                 bif (decide (a5 ≤ (699 : Int))) then
                  bif (!((decide ((5 : Int) = a1)) && ((decide ((0 : Int) = a2)) && (decide (a5 = a3))))) then
                   some (((5 : Int), ((0 : Int), a5)), (((3 : Int), (a5, ((0 : Int), (0 : Int)))) :: (((4 : Int), ((0 : Int), ((11 : Int), (5000 : Int)))) :: ([] : List (Int × (Int × (Int × Int)))))))
                  else
                   some (((5 : Int), ((0 : Int), a5)), (((3 : Int), (a5, ((0 : Int), (0 : Int)))) :: (((4 : Int), ((0 : Int), ((11 : Int), (5000 : Int)))) :: ([] : List (Int × (Int × (Int × Int)))))))
                 else
                  bif (!((decide (a1 = a1)) && ((decide (a2 = a2)) && (decide (a3 = a3))))) then
                   bif (decide (a1 = (7 : Int))) then
                    bindO (some (((7 : Int), ((0 : Int), ((0 : Int), (0 : Int)))) :: ([] : List (Int × (Int × (Int × Int)))))) fun x30 =>
                    bif (decide ((List.length x30) ≤ (List.length x30))) then 
                     some ((a1, (a2, a3)), (List.take (List.length x30) x30))
                    else none
                   else
                    some ((a1, (a2, a3)), ([] : List (Int × (Int × (Int × Int)))))
                  else
                   some ((a1, (a2, a3)), ([] : List (Int × (Int × (Int × Int)))))
                else
                 bif (!((decide (a1 = a1)) && ((decide (a2 = a2)) && (decide (a3 = a3))))) then
                  bif (decide (a1 = (7 : Int))) then
                   bindO (some (((7 : Int), ((0 : Int), ((0 : Int), (0 : Int)))) :: ([] : List (Int × (Int × (Int × Int)))))) fun x31 =>
                   bif (decide ((List.length x31) ≤ (List.length x31))) then 
                    some ((a1, (a2, a3)), (List.take (List.length x31) x31))
                   else none
                  else
                   some ((a1, (a2, a3)), ([] : List (Int × (Int × (Int × Int)))))
                 else
                  some ((a1, (a2, a3)), ([] : List (Int × (Int × (Int × Int)))))
               else
                bif (!((decide (a1 = a1)) && ((decide (a2 = a2)) && (decide (a3 = a3))))) then
                 bif (decide (a1 = (7 : Int))) then
                  bindO (some (((7 : Int), ((0 : Int), ((0 : Int), (0 : Int)))) :: ([] : List (Int × (Int × (Int × Int)))))) fun x32 =>
                  bif (decide ((List.length x32) ≤ (List.length x32))) then 
                   some ((a1, (a2, a3)), (List.take (List.length x32) x32))
                  else none
                 else
                  some ((a1, (a2, a3)), ([] : List (Int × (Int × (Int × Int)))))
                else
                 some ((a1, (a2, a3)), ([] : List (Int × (Int × (Int × Int)))))
             else
              bif (decide (a4 = (2 : Int))) then
               bif (decide (a5 ≥ (200 : Int))) then
                bif (decide (a5 ≤ (699 : Int))) then
                 bif (!((decide ((5 : Int) = a1)) && ((decide ((0 : Int) = a2)) && (decide (a5 = a3))))) then
                  some (((5 : Int), ((0 : Int), a5)), (((3 : Int), (a5, ((0 : Int), (0 : Int)))) :: (((4 : Int), ((0 : Int), ((11 : Int), (5000 : Int)))) :: ([] : List (Int × (Int × (Int × Int)))))))
                 else
                  some (((5 : Int), ((0 : Int), a5)), (((3 : Int), (a5, ((0 : Int), (0 : Int)))) :: (((4 : Int), ((0 : Int), ((11 : Int), (5000 : Int)))) :: ([] : List (Int × (Int × (Int × Int)))))))
                else
                 bif (!((decide (a1 = a1)) && ((decide (a2 = a2)) && (decide (a3 = a3))))) then
                  bif (decide (a1 = (7 : Int))) then
                   bindO (some (((7 : Int), ((0 : Int), ((0 : Int), (0 : Int)))) :: ([] : List (Int × (Int × (Int × Int)))))) fun x33 =>
                   bif (decide ((List.length x33) ≤ (List.length x33))) then 
                    some ((a1, (a2, a3)), (List.take (List.length x33) x33))
                   else none
                  else
                   some ((a1, (a2, a3)), ([] : List (Int × (Int × (Int × Int)))))
                 else
                  some ((a1, (a2, a3)), ([] : List (Int × (Int × (Int × Int)))))
               else
                bif (!((decide (a1 = a1)) && ((decide (a2 = a2)) && (decide (a3 = a3))))) then
                 bif (decide (a1 = (7 : Int))) then
                  bindO (some (((7 : Int), ((0 : Int), ((0 : Int), (0 : Int)))) :: ([] : List (Int × (Int × (Int × Int)))))) fun x34 =>
                  bif (decide ((List.length x34) ≤ (List.length x34))) then 
                   some ((a1, (a2, a3)), (List.take (List.length x34) x34))
                  else none
                 else
                  some ((a1, (a2, a3)), ([] : List (Int × (Int × (Int × Int)))))
                else
                 some ((a1, (a2, a3)), ([] : List (Int × (Int × (Int × Int)))))
              else
               bif (!((decide (a1 = a1)) && ((decide (a2 = a2)) && (decide (a3 = a3))))) then
                bif (decide (a1 = (7 : Int))) then
                 bindO (some (((7 : Int), ((0 : Int), ((0 : Int), (0 : Int)))) :: ([] : List (Int × (Int × (Int × Int)))))) fun x35 =>
                 bif (decide ((List.length x35) ≤ (List.length x35))) then 
                  some ((a1, (a2, a3)), (List.take (List.length x35) x35))
                 else none
                else
                 some ((a1, (a2, a3)), ([] : List (Int × (Int × (Int × Int)))))
               else
                some ((a1, (a2, a3)), ([] : List (Int × (Int × (Int × Int)))))
         else
          bif (decide (a4 = (5 : Int))) then
           bif (decide (a6 = (6 : Int))) then
            bif (!((decide ((7 : Int) = a1)) && ((decide ((0 : Int) = a2)) && (decide (a3 = a3))))) then
             bindO (some (((5 : Int), ((0 : Int), ((0 : Int), (0 : Int)))) :: (((7 : Int), ((0 : Int), ((0 : Int), (0 : Int)))) :: ([] : List (Int × (Int × (Int × Int))))))) fun x36 =>
             bif (decide ((List.length x36) ≤ (List.length x36))) then 
              some (((7 : Int), ((0 : Int), a3)), (List.take (List.length x36) x36))
             else none
            else
             some (((7 : Int), ((0 : Int), a3)), (((5 : Int), ((0 : Int), ((0 : Int), (0 : Int)))) :: ([] : List (Int × (Int × (Int × Int))))))
           else
            bif (decide (a4 = (6 : Int))) then
             bif (!((decide ((7 : Int) = a1)) && ((decide ((0 : Int) = a2)) && (decide (a3 = a3))))) then
              bindO (some (((6 : Int), ((0 : Int), ((0 : Int), (0 : Int)))) :: (((7 : Int), ((0 : Int), ((0 : Int), (0 : Int)))) :: ([] : List (Int × (Int × (Int × Int))))))) fun x37 =>
              bif (decide ((List.length x37) ≤ (List.length x37))) then 
               some (((7 : Int), ((0 : Int), a3)), (List.take (List.length x37) x37))
              else none
             else
              some (((7 : Int), ((0 : Int), a3)), (((6 : Int), ((0 : Int), ((0 : Int), (0 : Int)))) :: ([] : List (Int × (Int × (Int × Int))))))
            else
             bif (decide (a4 = (2 : Int))) then
              bif (decide (a5 ≥ (100 : Int))) then
               bif (decide (a5 ≤ (199 : Int))) then
                bif (!((decide ((3 : Int) = a1)) && ((decide (a2 = a2)) && (decide (a3 = a3))))) then
                 some (((3 : Int), (a2, a3)), (((3 : Int), (a5, ((0 : Int), (0 : Int)))) :: ([] : List (Int × (Int × (Int × Int))))))
                else
                 some (((3 : Int), (a2, a3)), (((3 : Int), (a5, ((0 : Int), (0 : Int)))) :: ([] : List (Int × (Int × (Int × Int))))))
               else
                bif (decide (a4 = (2 : Int))) then
                 bif (decide (a5 ≥ (200 : Int))) then
                  bif (decide (a5 ≤ (699 : Int))) then
                   bif (!((decide ((5 : Int) = a1)) && ((decide ((0 : Int) = a2)) && (decide (a5 = a3))))) then
                    some (((5 : Int), ((0 : Int), a5)), (((3 : Int), (a5, ((0 : Int), (0 : Int)))) :: (((4 : Int), ((0 : Int), ((11 : Int), (5000 : Int)))) :: ([] : List (Int × (Int × (Int × Int)))))))
                   else
                    some (((5 : Int), ((0 : Int), a5)), (((3 : Int), (a5, ((0 : Int), (0 : Int)))) :: (((4 : Int), ((0 : Int), ((11 : Int), (5000 : Int)))) :: ([] : List (Int × (Int × (Int × Int)))))))
                  else
                   bif (!((decide (a1 = a1)) && ((decide (a2 = a2)) && (decide (a3 = a3))))) then
                    bif (decide (a1 = (7 : Int))) then
                     bindO (some (((7 : Int), ((0 : Int), ((0 : Int), (0 : Int)))) :: ([] : List (Int × (Int × (Int × Int)))))) fun x38 =>
                     bif (decide ((List.length x38) ≤ (List.length x38))) then 
                      some ((a1, (a2, a3)), (List.take (List.length x38) x38))
                     else none
                    else
                     some ((a1, (a2, a3)), ([] : List (Int × (Int × (Int × Int)))))
                   else
                    some ((a1, (a2, a3)), ([] : List (Int × (Int × (Int × Int)))))
                 else
                  bif (!((decide (a1 = a1)) && ((decide (a2 = a2)) && (decide (a3 = a3))))) then
                   bif (decide (a1 = (7 : Int))) then
                    bindO (some (((7 : Int), ((0 : Int), ((0 : Int), (0 : Int)))) :: ([] : List (Int × (Int × (Int × Int)))))) fun x39 =>
                    bif (decide ((List.length x39) ≤ (List.length x39))) then 
                     some ((a1, (a2, a3)), (List.take (List.length x39) x39))
                    else none
                   else
                    some ((a1, (a2, a3)), ([] : List (Int × (Int × (Int × Int)))))
                  else
                   some ((a1, (a2, a3)), ([] : List (Int × (Int × (Int × Int)))))
                else
                 bif (!((decide (a1 = a1)) && ((decide (a2 = a2)) && (decide (a3 = a3))))) then
                  bif (decide (a1 = (7 : Int))) then
                   bindO (some (((7 : Int), ((0 : Int), ((0 : Int), (0 : Int)))) :: ([] : List (Int × (Int × (Int × Int)))))) fun x40 =>
                   bif (decide ((List.length x40) ≤ (List.length x40))) then 
                    some ((a1, (a2, a3)), (List.take (List.length x40) x40))
                   else none
                  else
                   some ((a1, (a2, a3)), ([] : List (Int × (Int × (Int × Int)))))
                 else
                  some ((a1, (a2, a3)), ([] : List (Int × (Int × (Int × Int)))))
              else
               bif (decide (a4 = (2 : Int))) then
                bif (decide (a5 ≥ (200 : Int))) then
                 bif (decide (a5 ≤ (699 : Int))) then
                  bif (!((decide ((5 : Int) = a1)) && ((decide ((0 : Int) = a2)) && (decide (a5 = a3))))) then
                   some (((5 : Int), ((0 : Int), a5)), (((3 : Int), (a5, ((0 : Int), (0 : Int)))) :: (((4 : Int), ((0 : Int), ((11 : Int), (5000 : Int)))) :: ([] : List (Int × (Int × (Int × Int)))))))
                  else
                   some (((5 : Int), ((0 : Int), a5)), (((3 : Int), (a5, ((0 : Int), (0 : Int)))) :: (((4 : Int), ((0 : Int), ((11 : Int), (5000 : Int)))) :: ([] : List (Int × (Int × (Int × Int)))))))
                 else
                  bif (!((decide (a1 = a1)) && ((decide (a2 = a2)) && (decide (a3 = a3))))) then
                   bif (decide (a1 = (7 : Int))) then
                    bindO (some (((7 : Int), ((0 : Int), ((0 : Int), (0 : Int)))) :: ([] : List (Int × (Int × (Int × Int)))))) fun x41 =>
                    bif (decide ((List.length x41) ≤ (List.length x41))) then 
                     some ((a1, (a2, a3)), (List.take (List.length x41) x41))
                    else none
                   else
                    some ((a1, (a2, a3)), ([] : List (Int × (Int × (Int × Int)))))
                  else
                   some ((a1, (a2, a3)), ([] : List (Int × (Int × (Int × Int)))))
                else
                 bif (!((decide (a1 = a1)) && ((decide (a2 = a2)) && (decide (a3 = a3))))) then
                  bif (decide (a1 = (7 : Int))) then
                   bindO (some (((7 : Int), ((0 : Int), ((0 : Int), (0 : Int)))) :: ([] : List (Int × (Int × (Int × Int)))))) fun x42 =>
                   bif (decide ((List.length x42) ≤ (List.length x42))) then 
                    some ((a1, (a2, a3)), (List.take (List.length x42) x42))
                   else none
                  else
                   some ((a1, (a2, a3)), ([] : List (Int × (Int × (Int × Int)))))
                 else
                  some ((a1, (a2, a3)), ([] : List (Int × (Int × (Int × Int)))))
               else
                bif (!((decide (a1 = a1)) && ((decide (a2 = a2)) && (decide (a3 = a3))))) then
                 bif (decide (a1 = (7 : Int))) then
                  bindO (some (((7 : Int), ((0 : Int), ((0 : Int), (0 : Int)))) :: ([] : List (Int × (Int × (Int × Int)))))) fun x43 =>
                  bif (decide ((List.length x43) ≤ (List.length x43))) then 
                   some ((a1, (a2, a3)), (List.take (List.length x43) x43))
                  else none
                 else
                  some ((a1, (a2, a3)), ([] : List (Int × (Int × (Int × Int)))))
                else
                 some ((a1, (a2, a3)), ([] : List (Int × (Int × (Int × Int)))))
             else
              bif (decide (a4 = (2 : Int))) then
               bif (decide (a5 ≥ (200 : Int))) then
                bif (decide (a5 ≤ (699 : Int))) then
                 bif (!((decide ((5 : Int) = a1)) && ((decide ((0 : Int) = a2)) && (decide (a5 = a3))))) then
                  some (((5 : Int), ((0 : Int), a5)), (((3 : Int), (a5, ((0 : Int), (0 : Int)))) :: (((4 : Int), ((0 : Int), ((11 : Int), (5000 : Int)))) :: ([] : List (Int × (Int × (Int × Int)))))))
                 else
                  some (((5 : Int), ((0 : Int), a5)), (((3 : Int), (a5, ((0 : Int), (0 : Int)))) :: (((4 : Int), ((0 : Int), ((11 : Int), (5000 : Int)))) :: ([] : List (Int × (Int × (Int × Int)))))))
                else
                 bif (!((decide (a1 = a1)) && ((decide (a2 = a2)) && (decide (a3 = a3))))) then
                  bif (decide (a1 = (7 : Int))) then
                   bindO (some (((7 : Int), ((0 : Int), ((0 : Int), (0 : Int)))) :: ([] : List (Int × (Int × (Int × Int)))))) fun x44 =>
                   bif (decide ((List.length x44) ≤ (List.length x44))) then 
                    some ((a1, (a2, a3)), (List.take (List.length x44) x44))
                   else none
                  else
                   some ((a1, (a2, a3)), ([] : List (Int × (Int × (Int × Int)))))
                 else
                  some ((a1, (a2, a3)), ([] : List (Int × (Int × (Int × Int)))))
               else
                bif (!((decide (a1 = a1)) && ((decide (a2 = a2)) && (decide (a3 = a3))))) then
                 bif (decide (a1 = (7 : Int))) then
                  bindO (some (((7 : Int), ((0 : Int), ((0 : Int), (0 : Int)))) :: ([] : List (Int × (Int × (Int × Int)))))) fun x45 =>
                  bif (decide ((List.length x45) ≤ (List.length x45))) then 
                   some ((a1, (a2, a3)), (List.take (List.length x45) x45))
                  else none
                 else
                  some ((a1, (a2, a3)), ([] : List (Int × (Int × (Int × Int)))))
                else
                 some ((a1, (a2, a3)), ([] : List (Int × (Int × (Int × Int)))))
              else
               bif (!((decide (a1 = a1)) && ((decide (a2 = a2)) && (decide (a3 = a3))))) then
                bif (decide (a1 = (7 : Int))) then
                 bindO (some (((7 : Int), ((0 : Int), ((0 : Int), (0 : Int)))) :: ([] : List (Int × (Int × (Int × Int)))))) fun x46 =>
                 bif (decide ((List.length x46) ≤ (List.length x46))) then 
                  some ((a1, (a2, a3)), (List.take (List.length x46) x46))
                 else none
                else
                 some ((a1, (a2, a3)), ([] : List (Int × (Int × (Int × Int)))))
               else
                some ((a1, (a2, a3)), ([] : List (Int × (Int × (Int × Int)))))
          else
           bif (decide (a4 = (6 : Int))) then
            bif (!((decide ((7 : Int) = a1)) && ((decide ((0 : Int) = a2)) && (decide (a3 = a3))))) then
             bindO (some (((6 : Int), ((0 : Int), ((0 : Int), (0 : Int)))) :: (((7 : Int), ((0 : Int), ((0 : Int), (0 : Int)))) :: ([] : List (Int × (Int × (Int × Int))))))) fun x47 =>
             bif (decide ((List.length x47) ≤ (List.length x47))) then 
              some (((7 : Int), ((0 : Int), a3)), (List.take (List.length x47) x47))
             else none
            else
             some (((7 : Int), ((0 : Int), a3)), (((6 : Int), ((0 : Int), ((0 : Int), (0 : Int)))) :: ([] : List (Int × (Int × (Int × Int))))))
           else
            bif (decide (a4 = (2 : Int))) then
             bif (decide (a5 ≥ (100 : Int))) then
              bif (decide (a5 ≤ (199 : Int))) then
               bif (!((decide ((3 : Int) = a1)) && ((decide (a2 = a2)) && (decide (a3 = a3))))) then
                some (((3 : Int), (a2, a3)), (((3 : Int), (a5, ((0 : Int), (0 : Int)))) :: ([] : List (Int × (Int × (Int × Int))))))
               else
                some (((3 : Int), (a2, a3)), (((3 : Int), (a5, ((0 : Int), (0 : Int)))) :: ([] : List (Int × (Int × (Int × Int))))))
              else
               bif (decide (a4 = (2 : Int))) then
                bif (decide (a5 ≥ (200 : Int))) then
                 bif (decide (a5 ≤ (699 : Int))) then
                  bif (!((decide ((5 : Int) = a1)) && ((decide ((0 : Int) = a2)) && (decide (a5 = a3))))) then
                   some (((5 : Int), ((0 : Int), a5)), (((3 : Int), (a5, ((0 : Int), (0 : Int)))) :: (((4 : Int), ((0 : Int), ((11 : Int), (5000 : Int)))) :: ([] : List (Int × (Int × (Int × Int)))))))
                  else
                   some (((5 : Int), ((0 : Int), a5)), (((3 : Int), (a5, ((0 : Int), (0 : Int)))) :: (((4 : Int), ((0 : Int), ((11 : Int), (5000 : Int)))) :: ([] : List (Int × (Int × (Int × Int)))))))
                 else
                  bif (!((decide (a1 = a1)) && ((decide (a2 = a2)) && (decide (a3 = a3))))) then
                   bif (decide (a1 = (7 : Int))) then
                    bindO (some (((7 : Int), ((0 : Int), ((0 : Int), (0 : Int)))) :: ([] : List (Int × (Int × (Int × Int)))))) fun x48 =>
                    bif (decide ((List.length x48) ≤ (List.length x48))) then 
                     some ((a1, (a2, a3)), (List.take (List.length x48) x48))
                    else none
                   else
                    some ((a1, (a2, a3)), ([] : List (Int × (Int × (Int × Int)))))
                  else
                   some ((a1, (a2, a3)), ([] : List (Int × (Int × (Int × Int)))))
                else
                 bif (!((decide (a1 = a1)) && ((decide (a2 = a2)) && (decide (a3 = a3))))) then
                  bif (decide (a1 = (7 : Int))) then
                   bindO (some (((7 : Int), ((0 : Int), ((0 : Int), (0 : Int)))) :: ([] : List (Int × (Int × (Int × Int)))))) fun x49 =>
                   bif (decide ((List.length x49) ≤ (List.length x49))) then 
                    some ((a1, (a2, a3)), (List.take (List.length x49) x49))
                   else none
                  else
                   some ((a1, (a2, a3)), ([] : List (Int × (Int × (Int × Int)))))
                 else
                  some ((a1, (a2, a3)), ([] : List (Int × (Int × (Int × Int)))))
               else
                bif (!((decide (a1 = a1)) && ((decide (a2 = a2)) && (decide (a3 = a3))))) then
                 bif (decide (a1 = (7 : Int))) then
                  bindO (some (((7 : Int), ((0 : Int), ((0 : Int), (0 : Int)))) :: ([] : List (Int × (Int × (Int × Int)))))) fun x50 =>
                  bif (decide ((List.length x50) ≤ (List.length x50))) then 
                   some ((a1, (a2, a3)), (List.take (List.length x50) x50))
                  else none
                 else
                  some ((a1, (a2, a3)), ([] : List (Int × (Int × (Int × Int)))))
                else
                 some ((a1, (a2, a3)), ([] : List (Int × (Int × (Int × Int)))))
             else
              bif (decide (a4 = (2 : Int))) then
               bif (decide (a5 ≥ (200 : Int))) then
                bif (decide (a5 ≤ (699 : Int))) then
                 bif (!((decide ((5 : Int) = a1)) && ((decide ((0 : Int) = a2)) && (decide (a5 = a3))))) then
                  some (((5 : Int), ((0 : Int), a5)), (((3 : Int), (a5, ((0 : Int), (0 : Int)))) :: (((4 : Int), ((0 : Int), ((11 : Int), (5000 : Int)))) :: ([] : List (Int × (Int × (Int × Int)))))))
                 else
                  some (((5 : Int), ((0 : Int), a5)), (((3 : Int), (a5, ((0 : Int), (0 : Int)))) :: (((4 : Int), ((0 : Int), ((11 : Int), (5000 : Int)))) :: ([] : List (Int × (Int × (Int × Int)))))))
                else
                 bif (!((decide (a1 = a1)) && ((decide (a2 = a2)) && (decide (a3 = a3))))) then
                  bif (decide (a1 = (7 : Int))) then
                   bindO (some (((7 : Int), ((0 : Int), ((0 : Int), (0 : Int)))) :: ([] : List (Int × (Int × (Int × Int)))))) fun x51 =>
                   bif (decide ((List.length x51) ≤ (List.length x51))) then 
                    some ((a1, (a2, a3)), (List.take (List.length x51) x51))
                   else none
                  else
                   some ((a1, (a2, a3)), ([] : List (Int × (Int × (Int × Int)))))
                 else
                  some ((a1, (a2, a3)), ([] : List (Int × (Int × (Int × Int)))))
               else
                bif (!((decide (a1 = a1)) && ((decide (a2 = a2)) && (decide (a3 = a3))))) then
                 bif (decide (a1 = (7 : Int))) then
                  bindO (some (((7 : Int), ((0 : Int), ((0 : Int), (0 : Int)))) :: ([] : List (Int × (Int × (Int × Int)))))) fun x52 =>
                  bif (decide ((List.length x52) ≤ (List.length x52))) then 
                   some ((a1, (a2, a3)), (List.take (List.length x52) x52))
                  else none
                 else
                  some ((a1, (a2, a3)), ([] : List (Int × (Int × (Int × Int)))))
                else
                 some ((a1, (a2, a3)), ([] : List (Int × (Int × (Int × Int)))))
              else
               bif (!((decide (a1 = a1)) && ((decide (a2 = a2)) && (decide (a3 = a3))))) then
                bif (decide (a1 = (7 : Int))) then
                 bindO (some (((7 : Int), ((0 : Int), ((0 : Int), (0 : Int)))) :: ([] : List (Int × (Int × (Int × Int)))))) fun x53 =>
                 bif (decide ((List.length x53) ≤ (List.length x53))) then 
                  some ((a1, (a2, a3)), (List.take (List.length x53) x53))
                 else none
                else
                 some ((a1, (a2, a3)), ([] : List (Int × (Int × (Int × Int)))))
               else
                some ((a1, (a2, a3)), ([] : List (Int × (Int × (Int × Int)))))
            else
             bif (decide (a4 = (2 : Int))) then
              bif (decide (a5 ≥ (200 : Int))) then
               bif (decide (a5 ≤ (699 : Int))) then
                bif (!((decide ((5 : Int) = a1)) && ((decide ((0 : Int) = a2)) && (decide (a5 = a3))))) then
                 some (((5 : Int), ((0 : Int), a5)), (((3 : Int), (a5, ((0 : Int), (0 : Int)))) :: (((4 : Int), ((0 : Int), ((11 : Int), (5000 : Int)))) :: ([] : List (Int × (Int × (Int × Int)))))))
                else
                 some (((5 : Int), ((0 : Int), a5)), (((3 : Int), (a5, ((0 : Int), (0 : Int)))) :: (((4 : Int), ((0 : Int), ((11 : Int), (5000 : Int)))) :: ([] : List (Int × (Int × (Int × Int)))))))
               else
                bif (!((decide (a1 = a1)) && ((decide (a2 = a2)) && (decide (a3 = a3))))) then
                 bif (decide (a1 = (7 : Int))) then
                  bindO (some (((7 : Int), ((0 : Int), ((0 : Int), (0 : Int)))) :: ([] : List (Int × (Int × (Int × Int)))))) fun x54 =>
                  bif (decide ((List.length x54) ≤ (List.length x54))) then 
                   some ((a1, (a2, a3)), (List.take (List.length x54) x54))
                  else none
                 else
                  some ((a1, (a2, a3)), ([] : List (Int × (Int × (Int × Int)))))
                else
                 some ((a1, (a2, a3)), ([] : List (Int × (Int × (Int × Int)))))
              else
               bif (!((decide (a1 = a1)) && ((decide (a2 = a2)) && (decide (a3 = a3))))) then
                bif (decide (a1 = (7 : Int))) then
                 bindO (some (((7 : Int), ((0 : Int), ((0 : Int), (0 : Int)))) :: ([] : List (Int × (Int × (Int × Int)))))) fun x55 =>
                 bif (decide ((List.length x55) ≤ (List.length x55))) then 
                  some ((a1, (a2, a3)), (List.take (List.length x55) x55))
                 else none
                else
                 some ((a1, (a2, a3)), ([] : List (Int × (Int × (Int × Int)))))
               else
                some ((a1, (a2, a3)), ([] : List (Int × (Int × (Int × Int)))))
             else
              bif (!((decide (a1 = a1)) && ((decide (a2 = a2)) && (decide (a3 = a3))))) then
               bif (decide (a1 = (7 : Int))) then
                bindO (some (((7 : Int), ((0 : Int), ((0 : Int), (0 : Int)))) :: ([] : List (Int × (Int × (Int × Int)))))) fun x56 =>
                bif (decide ((List.length x56) ≤ (List.length x56))) then 
                 some ((a1, (a2, a3)), (List.take (List.length x56) x56))
                else none
               else
                some ((a1, (a2, a3)), ([] : List (Int × (Int × (Int × Int)))))
              else
               some ((a1, (a2, a3)), ([] : List (Int × (Int × (Int × Int)))))
        else
         bif (decide ((Int.toNat a1) = 2)) then
          bif (decide (a4 = (5 : Int))) then
           bif (decide (a6 = (5 : Int))) then
            bif (decide (a1 = (2 : Int))) then
             bindO (some (Go.IntKind.wrap .i64 ((2 : Int) * a2))) fun x57 =>
             bif (!((decide (a1 = a1)) && ((decide ((minA x57 (4000 : Int)) = a2)) && (decide (a3 = a3))))) then
              bif (decide (a1 = (7 : Int))) then
               bindO (some (((1 : Int), ((0 : Int), ((0 : Int), (0 : Int)))) :: (((4 : Int), ((0 : Int), ((5 : Int), (minA x57 (4000 : Int))))) :: (((7 : Int), ((0 : Int), ((0 : Int), (0 : Int)))) :: ([] : List (Int × (Int × (Int × Int)))))))) fun x58 =>
               bif (decide ((List.length x58) ≤ (List.length x58))) then 
                some ((a1, ((minA x57 (4000 : Int)), a3)), (List.take (List.length x58) x58))
               else none
              else
               some ((a1, ((minA x57 (4000 : Int)), a3)), (((1 : Int), ((0 : Int), ((0 : Int), (0 : Int)))) :: (((4 : Int), ((0 : Int), ((5 : Int), (minA x57 (4000 : Int))))) :: ([] : List (Int × (Int × (Int × Int)))))))
             else
              some ((a1, ((minA x57 (4000 : Int)), a3)), (((1 : Int), ((0 : Int), ((0 : Int), (0 : Int)))) :: (((4 : Int), ((0 : Int), ((5 : Int), (minA x57 (4000 : Int))))) :: ([] : List (Int × (Int × (Int × Int)))))))
            else
             bif (!((decide (a1 = a1)) && ((decide ((4000 : Int) = a2)) && (decide (a3 = a3))))) then
              bif (decide (a1 = (7 : Int))) then
               bindO (some (((1 : Int), ((0 : Int), ((0 : Int), (0 : Int)))) :: (((4 : Int), ((0 : Int), ((5 : Int), (4000 : Int)))) :: (((7 : Int), ((0 : Int), ((0 : Int), (0 : Int)))) :: ([] : List (Int × (Int × (Int × Int)))))))) fun x59 =>
               bif (decide ((List.length x59) ≤ (List.length x59))) then 
                some ((a1, ((4000 : Int), a3)), (List.take (List.length x59) x59))
               else none
              else
               some ((a1, ((4000 : Int), a3)), (((1 : Int), ((0 : Int), ((0 : Int), (0 : Int)))) :: (((4 : Int), ((0 : Int), ((5 : Int), (4000 : Int)))) :: ([] : List (Int × (Int × (Int × Int)))))))
             else
              some ((a1, ((4000 : Int), a3)), (((1 : Int), ((0 : Int), ((0 : Int), (0 : Int)))) :: (((4 : Int), ((0 : Int), ((5 : Int), (4000 : Int)))) :: ([] : List (Int × (Int × (Int × Int)))))))
           else
            bif (decide (a4 = (5 : Int))) then
             bif (decide (a6 = (6 : Int))) then
              bif (!((decide ((7 : Int) = a1)) && ((decide ((0 : Int) = a2)) && (decide (a3 = a3))))) then
               bindO (some (((5 : Int), ((0 : Int), ((0 : Int), (0 : Int)))) :: (((7 : Int), ((0 : Int), ((0 : Int), (0 : Int)))) :: ([] : List (Int × (Int × (Int × Int))))))) fun x60 =>
               bif (decide ((List.length x60) ≤ (List.length x60))) then 
                some (((7 : Int), ((0 : Int), a3)), (List.take (List.length x60) x60))
               else none
              else
               some (((7 : Int), ((0 : Int), a3)), (((5 : Int), ((0 : Int), ((0 : Int), (0 : Int)))) :: ([] : List (Int × (Int × (Int × Int))))))
             else
              bif (decide (a4 = (6 : Int))) then
               bif (!((decide ((7 : Int) = a1)) && ((decide ((0 : Int) = a2)) && (decide (a3 = a3))))) then
                bindO (some (((6 : Int), ((0 : Int), ((0 : Int), (0 : Int)))) :: (((7 : Int), ((0 : Int), ((0 : Int), (0 : Int)))) :: ([] : List (Int × (Int × (Int × Int))))))) fun x61 =>
                bif (decide ((List.length x61) ≤ (List.length x61))) then 
                 some (((7 : Int), ((0 : Int), a3)), (List.take (List.length x61) x61))
                else none
               else
                some (((7 : Int), ((0 : Int), a3)), (((6 : Int), ((0 : Int), ((0 : Int), (0 : Int)))) :: ([] : List (Int × (Int × (Int × Int))))))
              else
               bif (decide (a4 = (2 : Int))) then
                bif (decide (a5 ≥ (100 : Int))) then
                 bif (decide (a5 ≤ (199 : Int))) then
                  bif (!((decide ((3 : Int) = a1)) && ((decide (a2 = a2)) && (decide (a3 = a3))))) then
                   some (((3 : Int), (a2, a3)), (((3 : Int), (a5, ((0 : Int), (0 : Int)))) :: ([] : List (Int × (Int × (Int × Int))))))
                  else
                   some (((3 : Int), (a2, a3)), (((3 : Int), (a5, ((0 : Int), (0 : Int)))) :: ([] : List (Int × (Int × (Int × Int))))))
                 else
                  bif (decide (a4 = (2 : Int))) then
                   bif (decide (a5 ≥ (200 : Int))) then
                    bif (decide (a5 ≤ (699 : Int))) then
                     bif (!((decide ((5 : Int) = a1)) && ((decide ((0 : Int) = a2)) && (decide (a5 = a3))))) then
                      some (((5 : Int), ((0 : Int), a5)), (((3 : Int), (a5, ((0 : Int), (0 : Int)))) :: (((4 : Int), ((0 : Int), ((11 : Int), (5000 : Int)))) :: ([] : List (Int × (Int × (Int × Int)))))))
                     else
                      some (((5 : Int), ((0 : Int), a5)), (((3 : Int), (a5, ((0 : Int), (0 : Int)))) :: (((4 : Int), ((0 : Int), ((11 : Int), (5000 : Int)))) :: ([] : List (Int × (Int × (Int × Int)))))))
                    else
                     bif (!((decide (a1 = a1)) && ((decide (a2 = a2)) && (decide (a3 = a3))))) then
                      bif (decide (a1 = (7 : Int))) then
                       bindO (some (((7 : Int), ((0 : Int), ((0 : Int), (0 : Int)))) :: ([] : List (Int × (Int × (Int × Int)))))) fun x62 =>
                       bif (decide ((List.length x62) ≤ (List.length x62))) then 
                        some ((a1, (a2, a3)), (List.take (List.length x62) x62))
                       else none
                      else
                       some ((a1, (a2, a3)), ([] : List (Int × (Int × (Int × Int)))))
                     else
                      some ((a1, (a2, a3)), ([] : List (Int × (Int × (Int × Int)))))
                   else
                    bif (!((decide (a1 = a1)) && ((decide (a2 = a2)) && (decide (a3 = a3))))) then
                     bif (decide (a1 = (7 : Int))) then
                      bindO (some (((7 : Int), ((0 : Int), ((0 : Int), (0 : Int)))) :: ([] : List (Int × (Int × (Int × Int)))))) fun x63 =>
                      bif (decide ((List.length x63) ≤ (List.length x63))) then 
                       some ((a1, (a2, a3)), (List.take (List.length x63) x63))
                      else none
                     else
                      some ((a1, (a2, a3)), ([] : List (Int × (Int × (Int × Int)))))
                    else
                     some ((a1, (a2, a3)), ([] : List (Int × (Int × (Int × Int)))))
                  else
                   bif (!((decide (a1 = a1)) && ((decide (a2 = a2)) && (decide (a3 = a3))))) then
                    bif (decide (a1 = (7 : Int))) then
                     bindO (some (((7 : Int), ((0 : Int), ((0 : Int), (0 : Int)))) :: ([] : List (Int × (Int × (Int × Int)))))) fun x64 =>
                     bif (decide ((List.length x64) ≤ (List.length x64))) then 
                      some ((a1, (a2, a3)), (List.take (List.length x64) x64))
                     else none
                    else
                     some ((a1, (a2, a3)), ([] : List (Int × (Int × (Int × Int)))))
                   else
                    some ((a1, (a2, a3)), ([] : List (Int × (Int × (Int × Int)))))
                else
                 bif (decide (a4 = (2 : Int))) then
                  bif (decide (a5 ≥ (200 : Int))) then
                   bif (decide (a5 ≤ (699 : Int))) then
                    bif (!((decide ((5 : Int) = a1)) && ((decide ((0 : Int) = a2)) && (decide (a5 = a3))))) then
                     some (((5 : Int), ((0 : Int), a5)), (((3 : Int), (a5, ((0 : Int), (0 : Int)))) :: (((4 : Int), ((0 : Int), ((11 : Int), (5000 : Int)))) :: ([] : List (Int × (Int × (Int × Int)))))))
                    else
                     some (((5 : Int), ((0 : Int), a5)), (((3 : Int), (a5, ((0 : Int), (0 : Int)))) :: (((4 : Int), ((0 : Int), ((11 : Int), (5000 : Int)))) :: ([] : List (Int × (Int × (Int × Int)))))))
                   else
                    bif (!((decide (a1 = a1)) && ((decide (a2 = a2)) && (decide (a3 = a3))))) then
                     bif (decide (a1 = (7 : Int))) then
                      bindO (some (((7 : Int), ((0 : Int), ((0 : Int), (0 : Int)))) :: ([] : List (Int × (Int × (Int × Int)))))) fun x65 =>
                      bif (decide ((List.length x65) ≤ (List.length x65))) then 
                       some ((a1, (a2, a3)), (List.take (List.length x65) x65))
                      else none
                     else
                      some ((a1, (a2, a3)), ([] : List (Int × (Int × (Int × Int)))))
                    else
                     some ((a1, (a2, a3)), ([] : List (Int × (Int × (Int × Int)))))
                  else
                   bif (!((decide (a1 = a1)) && ((decide (a2 = a2)) && (decide (a3 = a3))))) then
                    bif (decide (a1 = (7 : Int))) then
                     bindO (some (((7 : Int), ((0 : Int), ((0 : Int), (0 : Int)))) :: ([] : List (Int × (Int × (Int × Int)))))) fun x66 =>
                     bif (decide ((List.length x66) ≤ (List.length x66))) then 
                      some ((a1, (a2, a3)), (List.take (List.length x66) x66))
                     else none
                    else
                     some ((a1, (a2, a3)), ([] : List (Int × (Int × (Int × Int)))))
                   else
                    some ((a1, (a2, a3)), ([] : List (Int × (Int × (Int × Int)))))
                 else
                  bif (!((decide (a1 = a1)) && ((decide (a2 = a2)) && (decide (a3 = a3))))) then
                   bif (decide (a1 = (7 : Int))) then
                    bindO (some (((7 : Int), ((0 : Int), ((0 : Int), (0 : Int)))) :: ([] : List (Int × (Int × (Int × Int)))))) fun x67 =>
                    bif (decide ((List.length x67) ≤ (List.length x67))) then 
                     some ((a1, (a2, a3)), (List.take (List.length x67) x67))
                    else none
                   else
                    some ((a1, (a2, a3)), ([] : List (Int × (Int × (Int × Int)))))
                  else
                   some ((a1, (a2, a3)), ([] : List (Int × (Int × (Int × Int)))))
               else
                bif (decide (a4 = (2 : Int))) then
                 bif (decide (a5 ≥ (200 : Int))) then
                  bif (decide (a5 ≤ (699 : Int))) then
                   bif (!((decide ((5 : Int) = a1)) && ((decide ((0 : Int) = a2)) && (decide (a5 = a3))))) then
                    some (((5 : Int), ((0 : Int), a5)), (((3 : Int), (a5, ((0 : Int), (0 : Int)))) :: (((4 : Int), ((0 : Int), ((11 : Int), (5000 : Int)))) :: ([] : List (Int × (Int × (Int × Int)))))))
                   else
                    some (((5 : Int), ((0 : Int), a5)), (((3 : Int), (a5, ((0 : Int), (0 : Int)))) :: (((4 : Int), ((0 : Int), ((11 : Int), (5000 : Int)))) :: ([] : List (Int × (Int × (Int × Int)))))))
                  else
                   bif (!((decide (a1 = a1)) && ((decide (a2 = a2)) && (decide (a3 = a3))))) then
                    bif (decide (a1 = (7 : Int))) then
                     bindO (some (((7 : Int), ((0 : Int), ((0 : Int), (0 : Int)))) :: ([] : List (Int × (Int × (Int × Int)))))) fun x68 =>
                     bif (decide ((List.length x68) ≤ (List.length x68))) then 
                      some ((a1, (a2, a3)), (List.take (List.length x68) x68))
                     else none
                    else
                     some ((a1, (a2, a3)), ([] : List (Int × (Int × (Int × Int)))))
                   else
                    some ((a1, (a2, a3)), ([] : List (Int × (Int × (Int × Int)))))
                 else
                  bif (!((decide (a1 = a1)) && ((decide (a2 = a2)) && (decide (a3 = a3))))) then
                   bif (decide (a1 = (7 : Int))) then
                    bindO (some (((7 : Int), ((0 : Int), ((0 : Int), (0 : Int)))) :: ([] : List (Int × (Int × (Int × Int)))))) fun x69 =>
                    bif (decide ((List.length x69) ≤ (List.length x69))) then 
                     some ((a1, (a2, a3)), (List.take (List.length x69) x69))
                    else none
                   else
                    some ((a1, (a2, a3)), ([] : List (Int × (Int × (Int × Int)))))
                  else
                   some ((a1, (a2, a3)), ([] : List (Int × (Int × (Int × Int)))))
                else
                 bif (!((decide (a1 = a1)) && ((decide (a2 = a2)) && (decide (a3 = a3))))) then
                  bif (decide (a1 = (7 : Int))) then
                   bindO (some (((7 : Int), ((0 : Int), ((0 : Int), (0 : Int)))) :: ([] : List (Int × (Int × (Int × Int)))))) fun x70 =>
                   bif (decide ((List.length x70) ≤ (List.length x70))) then 
                    some ((a1, (a2, a3)), (List.take (List.length x70) x70))
                   else none
                  else
                   some ((a1, (a2, a3)), ([] : List (Int × (Int × (Int × Int)))))
                 else
                  some ((a1, (a2, a3)), ([] : List (Int × (Int × (Int × Int)))))
            else
             bif (decide (a4 = (6 : Int))) then
              bif (!((decide ((7 : Int) = a1)) && ((decide ((0 : Int) = a2)) && (decide (a3 = a3))))) then
               bindO (some (((6 : Int), ((0 : Int), ((0 : Int), (0 : Int)))) :: (((7 : Int), ((0 : Int), ((0 : Int), (0 : Int)))) :: ([] : List (Int × (Int × (Int × Int))))))) fun x71 =>
               bif (decide ((List.length x71) ≤ (List.length x71))) then 
                some (((7 : Int), ((0 : Int), a3)), (List.take (List.length x71) x71))
               else none
              else
               some (((7 : Int), ((0 : Int), a3)), (((6 : Int), ((0 : Int), ((0 : Int), (0 : Int)))) :: ([] : List (Int × (Int × (Int × Int))))))
             else
              bif (decide (a4 = (2 : Int))) then
               bif (decide (a5 ≥ (100 : Int))) then
                bif (decide (a5 ≤ (199 : Int))) then
                 bif (!((decide ((3 : Int) = a1)) && ((decide (a2 = a2)) && (decide (a3 = a3))))) then
                  some (((3 : Int), (a2, a3)), (((3 : Int), (a5, ((0 : Int), (0 : Int)))) :: ([] : List (Int × (Int × (Int × Int))))))
                 else
                  some (((3 : Int), (a2, a3)), (((3 : Int), (a5, ((0 : Int), (0 : Int)))) :: ([] : List (Int × (Int × (Int × Int))))))
                else
                 bif (decide (a4 = (2 : Int))) then
                  bif (decide (a5 ≥ (200 : Int))) then
                   bif (decide (a5 ≤ (699 : Int))) then
                    bif (!((decide ((5 : Int) = a1)) && ((decide ((0 : Int) = a2)) && (decide (a5 = a3))))) then
                     some (((5 : Int), ((0 : Int), a5)), (((3 : Int), (a5, ((0 : Int), (0 : Int)))) :: (((4 : Int), ((0 : Int), ((11 : Int), (5000 : Int)))) :: ([] : List (Int × (Int × (Int × Int)))))))
                    else
                     some (((5 : Int), ((0 : Int), a5)), (((3 : Int), (a5, ((0 : Int), (0 : Int)))) :: (((4 : Int), ((0 : Int), ((11 : Int), (5000 : Int)))) :: ([] : List (Int × (Int × (Int × Int)))))))
                   else
                    bif (!((decide (a1 = a1)) && ((decide (a2 = a2)) && (decide (a3 = a3))))) then
                     bif (decide (a1 = (7 : Int))) then
                      bindO (some (((7 : Int), ((0 : Int), ((0 : Int), (0 : Int)))) :: ([] : List (Int × (Int × (Int × Int)))))) fun x72 =>
                      bif (decide ((List.length x72) ≤ (List.length x72))) then 
                       some ((a1, (a2, a3)), (List.take (List.length x72) x72))
                      else none
                     else
                      some ((a1, (a2, a3)), ([] : List (Int × (Int × (Int × Int)))))
                    else
                     some ((a1, (a2, a3)), ([] : List (Int × (Int × (Int × Int)))))
                  else
                   bif (!((decide (a1 = a1)) && ((decide (a2 = a2)) && (decide (a3 = a3))))) then
                    bif (decide (a1 = (7 : Int))) then
                     bindO (some (((7 : Int), ((0 : Int), ((0 : Int), (0 : Int)))) :: ([] : List (Int × (Int × (Int × Int)))))) fun x73 =>
                     bif (decide ((List.length x73) ≤ (List.length x73))) then 
                      some ((a1, (a2, a3)), (List.take (List.length x73) x73))
                     else none
                    else
                     some ((a1, (a2, a3)), ([] : List (Int × (Int × (Int × Int)))))
                   else
                    some ((a1, (a2, a3)), ([] : List (Int × (Int × (Int × Int)))))
                 else
                  bif (!((decide (a1 = a1)) && ((decide (a2 = a2)) && (decide (a3 = a3))))) then
                   bif (decide (a1 = (7 : Int))) then
                    bindO (some (((7 : Int), ((0 : Int), ((0 : Int), (0 : Int)))) :: ([] : List (Int × (Int × (Int × Int)))))) fun x74 =>
                    bif (decide ((List.length x74) ≤ (List.length x74))) then 
                     some ((a1, (a2, a3)), (List.take (List.length x74) x74))
                    else none
                   else
                    some ((a1, (a2, a3)), ([] : List (Int × (Int × (Int × Int)))))
                  else
                   some ((a1, (a2, a3)), ([] : List (Int × (Int × (Int × Int)))))
               else
                bif (decide (a4 = (2 : Int))) then
                 bif (decide (a5 ≥ (200 : Int))) then
                  bif (decide (a5 ≤ (699 : Int))) then
                   bif (!((decide ((5 : Int) = a1)) && ((decide ((0 : Int) = a2)) && (decide (a5 = a3))))) then
                    some (((5 : Int), ((0 : Int), a5)), (((3 : Int), (a5, ((0 : Int), (0 : Int)))) :: (((4 : Int), ((0 : Int), ((11 : Int), (5000 : Int)))) :: ([] : List (Int × (Int × (Int × Int)))))))
                   else
                    some (((5 : Int), ((0 : Int), a5)), (((3 : Int), (a5, ((0 : Int), (0 : Int)))) :: (((4 : Int), ((0 : Int), ((11 : Int), (5000 : Int)))) :: ([] : List (Int × (Int × (Int × Int)))))))
                  else
                   bif (!((decide (a1 = a1)) && ((decide (a2 = a2)) && (decide (a3 = a3))))) then
                    bif (decide (a1 = (7 : Int))) then
                     bindO (some (((7 : Int), ((0 : Int), ((0 : Int), (0 : Int)))) :: ([] : List (Int × (Int × (Int × Int)))))) fun x75 =>
                     bif (decide ((List.length x75) ≤ (List.length x75))) then 
                      some ((a1, (a2, a3)), (List.take (List.length x75) x75))
                     else none
                    else
                     some ((a1, (a2, a3)), ([] : List (Int × (Int × (Int × Int)))))
                   else
                    some ((a1, (a2, a3)), ([] : List (Int × (Int × (Int × Int)))))
                 else
                  bif (!((decide (a1 = a1)) && ((decide (a2 = a2)) && (decide (a3 = a3))))) then
                   bif (decide (a1 = (7 : Int))) then
                    bindO (some (((7 : Int), ((0 : Int), ((0 : Int), (0 : Int)))) :: ([] : List (Int × (Int × (Int × Int)))))) fun x76 =>
                    bif (decide ((List.length x76) ≤ (List.length x76))) then 
                     some ((a1, (a2, a3)), (List.take (List.length x76) x76))
                    else none
                   else
                    some ((a1, (a2, a3)), ([] : List (Int × (Int × (Int × Int)))))
                  else
                   some ((a1, (a2, a3)), ([] : List (Int × (Int × (Int × Int)))))
                else
                 bif (!((decide (a1 = a1)) && ((decide (a2 = a2)) && (decide (a3 = a3))))) then
                  bif (decide (a1 = (7 : Int))) then
                   bindO (some (((7 : Int), ((0 : Int), ((0 : Int), (0 : Int)))) :: ([] : List (Int × (Int × (Int × Int)))))) fun x77 =>
                   bif (decide ((List.length x77) ≤ (List.length x77))) then 
                    some ((a1, (a2, a3)), (List.take (List.length x77) x77))
                   else none
                  else
                   some ((a1, (a2, a3)), ([] : List (Int × (Int × (Int × Int)))))
                 else
                  some ((a1, (a2, a3)), ([] : List (Int × (Int × (Int × Int)))))
              else
               bif (decide (a4 = (2 : Int))) then
                bif (decide (a5 ≥ (200 : Int))) then
                 bif (decide (a5 ≤ (699 : Int))) then
                  bif (!((decide ((5 : Int) = a1)) && ((decide ((0 : Int) = a2)) && (decide (a5 = a3))))) then
                   some (((5 : Int), ((0 : Int), a5)), (((3 : Int), (a5, ((0 : Int), (0 : Int)))) :: (((4 : Int), ((0 : Int), ((11 : Int), (5000 : Int)))) :: ([] : List (Int × (Int × (Int × Int)))))))
                  else
                   some (((5 : Int), ((0 : Int), a5)), (((3 : Int), (a5, ((0 : Int), (0 : Int)))) :: (((4 : Int), ((0 : Int), ((11 : Int), (5000 : Int)))) :: ([] : List (Int × (Int × (Int × Int)))))))
                 else
                  bif (!((decide (a1 = a1)) && ((decide (a2 = a2)) && (decide (a3 = a3))))) then
                   bif (decide (a1 = (7 : Int))) then
                    bindO (some (((7 : Int), ((0 : Int), ((0 : Int), (0 : Int)))) :: ([] : List (Int × (Int × (Int × Int)))))) fun x78 =>
                    bif (decide ((List.length x78) ≤ (List.length x78))) then 
                     some ((a1, (a2, a3)), (List.take (List.length x78) x78))
                    else none
                   else
                    some ((a1, (a2, a3)), ([] : List (Int × (Int × (Int × Int)))))
                  else
                   some ((a1, (a2, a3)), ([] : List (Int × (Int × (Int × Int)))))
                else
                 bif (!((decide (a1 = a1)) && ((decide (a2 = a2)) && (decide (a3 = a3))))) then
                  bif (decide (a1 = (7 : Int))) then
                   bindO (some (((7 : Int), ((0 : Int), ((0 : Int), (0 : Int)))) :: ([] : List (Int × (Int × (Int × Int)))))) fun x79 =>
                   bif (decide ((List.length x79) ≤ (List.length x79))) then 
                    some ((a1, (a2, a3)), (List.take (List.length x79) x79))
                   else none
                  else
                   some ((a1, (a2, a3)), ([] : List (Int × (Int × (Int × Int)))))
                 else
                  some ((a1, (a2, a3)), ([] : List (Int × (Int × (Int × Int)))))
               else
                bif (!((decide (a1 = a1)) && ((decide (a2 = a2)) && (decide (a3 = a3))))) then
                 bif (decide (a1 = (7 : Int))) then
                  bindO (some (((7 : Int), ((0 : Int), ((0 : Int), (0 : Int)))) :: ([] : List (Int × (Int × (Int × Int)))))) fun x80 =>
                  bif (decide ((List.length x80) ≤ (List.length x80))) then 
                   some ((a1, (a2, a3)), (List.take (List.length x80) x80))
                  else none
                 else
                  some ((a1, (a2, a3)), ([] : List (Int × (Int × (Int × Int)))))
                else
                 some ((a1, (a2, a3)), ([] : List (Int × (Int × (Int × Int)))))
          else
           bif (decide (a4 = (5 : Int))) then
            bif (decide (a6 = (6 : Int))) then
             bif (!((decide ((7 : Int) = a1)) && ((decide ((0 : Int) = a2)) && (decide (a3 = a3))))) then
              bindO (some (((5 : Int), ((0 : Int), ((0 : Int), (0 : Int)))) :: (((7 : Int), ((0 : Int), ((0 : Int), (0 : Int)))) :: ([] : List (Int × (Int × (Int × Int))))))) fun x81 =>
              bif (decide ((List.length x81) ≤ (List.length x81))) then 
               some (((7 : Int), ((0 : Int), a3)), (List.take (List.length x81) x81))
              else none
             else
              some (((7 : Int), ((0 : Int), a3)), (((5 : Int), ((0 : Int), ((0 : Int), (0 : Int)))) :: ([] : List (Int × (Int × (Int × Int))))))
            else
             bif (decide (a4 = (6 : Int))) then
              bif (!((decide ((7 : Int) = a1)) && ((decide ((0 : Int) = a2)) && (decide (a3 = a3))))) then
               bindO (some (((6 : Int), ((0 : Int), ((0 : Int), (0 : Int)))) :: (((7 : Int), ((0 : Int), ((0 : Int), (0 : Int)))) :: ([] : List (Int × (Int × (Int × Int))))))) fun x82 =>
               bif (decide ((List.length x82) ≤ (List.length x82))) then 
                some (((7 : Int), ((0 : Int), a3)), (List.take (List.length x82) x82))
               else none
              else
               some (((7 : Int), ((0 : Int), a3)), (((6 : Int), ((0 : Int), ((0 : Int), (0 : Int)))) :: ([] : List (Int × (Int × (Int × Int))))))
             else
              bif (decide (a4 = (2 : Int))) then
               bif (decide (a5 ≥ (100 : Int))) then
                bif (decide (a5 ≤ (199 : Int))) then
                 bif (!((decide ((3 : Int) = a1)) && ((decide (a2 = a2)) && (decide (a3 = a3))))) then
                  some (((3 : Int), (a2, a3)), (((3 : Int), (a5, ((0 : Int), (0 : Int)))) :: ([] : List (Int × (Int × (Int × Int))))))
                 else
                  some (((3 : Int), (a2, a3)), (((3 : Int), (a5, ((0 : Int), (0 : Int)))) :: ([] : List (Int × (Int × (Int × Int))))))
                else
                 bif (decide (a4 = (2 : Int))) then
                  bif (decide (a5 ≥ (200 : Int))) then
                   bif (decide (a5 ≤ (699 : Int))) then
                    bif (!((decide ((5 : Int) = a1)) && ((decide ((0 : Int) = a2)) && (decide (a5 = a3))))) then
                     some (((5 : Int), ((0 : Int), a5)), (((3 : Int), (a5, ((0 : Int), (0 : Int)))) :: (((4 : Int), ((0 : Int), ((11 : Int), (5000 : Int)))) :: ([] : List (Int × (Int × (Int × Int)))))))
                    else
                     some (((5 : Int), ((0 : Int), a5)), (((3 : Int), (a5, ((0 : Int), (0 : Int)))) :: (((4 : Int), ((0 : Int), ((11 : Int), (5000 : Int)))) :: ([] : List (Int × (Int × (Int × Int)))))))
                   else
                    bif (!((decide (a1 = a1)) && ((decide (a2 = a2)) && (decide (a3 = a3))))) then
                     bif (decide (a1 = (7 : Int))) then
                      bindO (some (((7 : Int), ((0 : Int), ((0 : Int), (0 : Int)))) :: ([] : List (Int × (Int × (Int × Int)))))) fun x83 =>
                      bif (decide ((List.length x83) ≤ (List.length x83))) then 
                       some ((a1, (a2, a3)), (List.take (List.length x83) x83))
                      else none
                     else
                      some ((a1, (a2, a3)), ([] : List (Int × (Int × (Int × Int)))))
                    else
                     some ((a1, (a2, a3)), ([] : List (Int × (Int × (Int × Int)))))
                  else
                   bif (!((decide (a1 = a1)) && ((decide (a2 = a2)) && (decide (a3 = a3))))) then
                    bif (decide (a1 = (7 : Int))) then
                     bindO (some (((7 : Int), ((0 : Int), ((0 : Int), (0 : Int)))) :: ([] : List (Int × (Int × (Int × Int)))))) fun x84 =>
                     bif (decide ((List.length x84) ≤ (List.length x84))) then 
                      some ((a1, (a2, a3)), (List.take (List.length x84) x84))
                     else none
                    else
                     some ((a1, (a2, a3)), ([] : List (Int × (Int × (Int × Int)))))
                   else
                    some ((a1, (a2, a3)), ([] : List (Int × (Int × (Int × Int)))))
                 else
                  bif (!((decide (a1 = a1)) && ((decide (a2 = a2)) && (decide (a3 = a3))))) then
                   bif (decide (a1 = (7 : Int))) then
                    bindO (some (((7 : Int), ((0 : Int), ((0 : Int), (0 : Int)))) :: ([] : List (Int × (Int × (Int × Int)))))) fun x85 =>
                    bif (decide ((List.length x85) ≤ (List.length x85))) then 
                     some ((a1, (a2, a3)), (List.take (List.length x85) x85))
                    else none
                   else
                    some ((a1, (a2, a3)), ([] : List (Int × (Int × (Int × Int)))))
                  else
                   some ((a1, (a2, a3)), ([] : List (Int × (Int × (Int × Int)))))
               else
                bif (decide (a4 = (2 : Int))) then
                 bif (decide (a5 ≥ (200 : Int))) then
                  bif (decide (a5 ≤ (699 : Int))) then
                   bif (!((decide ((5 : Int) = a1)) && ((decide ((0 : Int) = a2)) && (decide (a5 = a3))))) then
                    some (((5 : Int), ((0 : Int), a5)), (((3 : Int), (a5, ((0 : Int), (0 : Int)))) :: (((4 : Int), ((0 : Int), ((11 : Int), (5000 : Int)))) :: ([] : List (Int × (Int × (Int × Int)))))))
                   else
                    some (((5 : Int), ((0 : Int), a5)), (((3 : Int), (a5, ((0 : Int), (0 : Int)))) :: (((4 : Int), ((0 : Int), ((11 : Int), (5000 : Int)))) :: ([] : List (Int × (Int × (Int × Int)))))))
                  else
                   bif (!((decide (a1 = a1)) && ((decide (a2 = a2)) && (decide (a3 = a3))))) then
                    bif (decide (a1 = (7 : Int))) then
                     bindO (some (((7 : Int), ((0 : Int), ((0 : Int), (0 : Int)))) :: ([] : List (Int × (Int × (Int × Int)))))) fun x86 =>
                     bif (decide ((List.length x86) ≤ (List.length x86))) then 
                      some ((a1, (a2, a3)), (List.take (List.length x86) x86))
                     else none
                    else
                     some ((a1, (a2, a3)), ([] : List (Int × (Int × (Int × Int)))))
                   else
                    some ((a1, (a2, a3)), ([] : List (Int × (Int × (Int × Int)))))
                 else
                  bif (!((decide (a1 = a1)) && ((decide (a2 = a2)) && (decide (a3 = a3))))) then
                   bif (decide (a1 = (7 : Int))) then
                    bindO (some (((7 : Int), ((0 : Int), ((0 : Int), (0 : Int)))) :: ([] : List (Int × (Int × (Int × Int)))))) fun x87 =>
                    bif (decide ((List.length x87) ≤ (List.length x87))) then 
                     some ((a1, (a2, a3)), (List.take (List.length x87) x87))
                    else none
                   else
                    some ((a1, (a2, a3)), ([] : List (Int × (Int × (Int × Int)))))
                  else
                   some ((a1, (a2, a3)), ([] : List (Int × (Int × (Int × Int)))))
                else
                 bif (!((decide (a1 = a1)) && ((decide (a2 = a2)) && (decide (a3 = a3))))) then
                  bif (decide (a1 = (7 : Int))) then
                   bindO (some (((7 : Int), ((0 : Int), ((0 : Int), (0 : Int)))) :: ([] : List (Int × (Int × (Int × Int)))))) fun x88 =>
                   bif (decide ((List.length x88) ≤ (List.length x88))) then 
                    some ((a1, (a2, a3)), (List.take (List.length x88) x88))
                   else none
                  else
                   some ((a1, (a2, a3)), ([] : List (Int × (Int × (Int × Int)))))
                 else
                  some ((a1, (a2, a3)), ([] : List (Int × (Int × (Int × Int)))))
              else
               bif (decide (a4 = (2 : Int))) then
                bif (decide (a5 ≥ (200 : Int))) then
                 bif (decide (a5 ≤ (699 : Int))) then
                  bif (!((decide ((5 : Int) = a1)) && ((decide ((0 : Int) = a2)) && (decide (a5 = a3))))) then
                   some (((5 : Int), ((0 : Int), a5)), (((3 : Int), (a5, ((0 : Int), (0 : Int)))) :: (((4 : Int), ((0 : Int), ((11 : Int), (5000 : Int)))) :: ([] : List (Int × (Int × (Int × Int)))))))
                  else
                   some (((5 : Int), ((0 : Int), a5)), (((3 : Int), (a5, ((0 : Int), (0 : Int)))) :: (((4 : Int), ((0 : Int), ((11 : Int), (5000 : Int)))) :: ([] : List (Int × (Int × (Int × Int)))))))
                 else
                  bif (!((decide (a1 = a1)) && ((decide (a2 = a2)) && (decide (a3 = a3))))) then
                   bif (decide (a1 = (7 : Int))) then
                    bindO (some (((7 : Int), ((0 : Int), ((0 : Int), (0 : Int)))) :: ([] : List (Int × (Int × (Int × Int)))))) fun x89 =>
                    bif (decide ((List.length x89) ≤ (List.length x89))) then 
                     some ((a1, (a2, a3)), (List.take (List.length x89) x89))
                    else none
                   else
                    some ((a1, (a2, a3)), ([] : List (Int × (Int × (Int × Int)))))
                  else
                   some ((a1, (a2, a3)), ([] : List (Int × (Int × (Int × Int)))))
                else
                 bif (!((decide (a1 = a1)) && ((decide (a2 = a2)) && (decide (a3 = a3))))) then
                  bif (decide (a1 = (7 : Int))) then
                   bindO (some (((7 : Int), ((0 : Int), ((0 : Int), (0 : Int)))) :: ([] : List (Int × (Int × (Int × Int)))))) fun x90 =>
                   bif (decide ((List.length x90) ≤ (List.length x90))) then 
                    some ((a1, (a2, a3)), (List.take (List.length x90) x90))
                   else none
                  else
                   some ((a1, (a2, a3)), ([] : List (Int × (Int × (Int × Int)))))
                 else
                  some ((a1, (a2, a3)), ([] : List (Int × (Int × (Int × Int)))))
               else
                bif (!((decide (a1 = a1)) && ((decide (a2 = a2)) && (decide (a3 = a3))))) then
                 bif (decide (a1 = (7 : Int))) then
                  bindO (some (((7 : Int), ((0 : Int), ((0 : Int), (0 : Int)))) :: ([] : List (Int × (Int × (Int × Int)))))) fun x91 =>
                  bif (decide ((List.length x91) ≤ (List.length x91))) then 
                   some ((a1, (a2, a3)), (List.take (List.length x91) x91))
                  else none
                 else
                  some ((a1, (a2, a3)), ([] : List (Int × (Int × (Int × Int)))))
                else
                 some ((a1, (a2, a3)), ([] : List (Int × (Int × (Int × Int)))))
           else
            bif (decide (a4 = (6 : Int))) then
             bif (!((decide ((7 : Int) = a1)) && ((decide ((0 : Int) = a2)) && (decide (a3 = a3))))) then
              bindO (some (((6 : Int), ((0 : Int), ((0 : Int), (0 : Int)))) :: (((7 : Int), ((0 : Int), ((0 : Int), (0 : Int)))) :: ([] : List (Int × (Int × (Int × Int))))))) fun x92 =>
              bif (decide ((List.length x92) ≤ (List.length x92))) then 
               some (((7 : Int), ((0 : Int), a3)), (List.take (List.length x92) x92))
              else none
             else
              some (((7 : Int), ((0 : Int), a3)), (((6 : Int), ((0 : Int), ((0 : Int), (0 : Int)))) :: ([] : List (Int × (Int × (Int × Int))))))
            else
             bif (decide (a4 = (2 : Int))) then
              bif (decide (a5 ≥ (100 : Int))) then
               bif (decide (a5 ≤ (199 : Int))) then
                bif (!((decide ((3 : Int) = a1)) && ((decide (a2 = a2)) && (decide (a3 = a3))))) then
                 some (((3 : Int), (a2, a3)), (((3 : Int), (a5, ((0 : Int), (0 : Int)))) :: ([] : List (Int × (Int × (Int × Int))))))
                else
                 some (((3 : Int), (a2, a3)), (((3 : Int), (a5, ((0 : Int), (0 : Int)))) :: ([] : List (Int × (Int × (Int × Int))))))
               else
                bif (decide (a4 = (2 : Int))) then
                 bif (decide (a5 ≥ (200 : Int))) then
                  bif (decide (a5 ≤ (699 : Int))) then
                   bif (!((decide ((5 : Int) = a1)) && ((decide ((0 : Int) = a2)) && (decide (a5 = a3))))) then
                    some (((5 : Int), ((0 : Int), a5)), (((3 : Int), (a5, ((0 : Int), (0 : Int)))) :: (((4 : Int), ((0 : Int), ((11 : Int), (5000 : Int)))) :: ([] : List (Int × (Int × (Int × Int)))))))
                   else
                    some (((5 : Int), ((0 : Int), a5)), (((3 : Int), (a5, ((0 : Int), (0 : Int)))) :: (((4 : Int), ((0 : Int), ((11 : Int), (5000 : Int)))) :: ([] : List (Int × (Int × (Int × Int)))))))
                  else
                   bif (!((decide (a1 = a1)) && ((decide (a2 = a2)) && (decide (a3 = a3))))) then
                    bif (decide (a1 = (7 : Int))) then
                     bindO (some (((7 : Int), ((0 : Int), ((0 : Int), (0 : Int)))) :: ([] : List (Int × (Int × (Int × Int)))))) fun x93 =>
                     bif (decide ((List.length x93) ≤ (List.length x93))) then 
                      some ((a1, (a2, a3)), (List.take (List.length x93) x93))
                     else none
                    else
                     some ((a1, (a2, a3)), ([] : List (Int × (Int × (Int × Int)))))
                   else
                    some ((a1, (a2, a3)), ([] : List (Int × (Int × (Int × Int)))))
                 else
                  bif (!((decide (a1 = a1)) && ((decide (a2 = a2)) && (decide (a3 = a3))))) then
                   bif (decide (a1 = (7 : Int))) then
                    bindO (some (((7 : Int), ((0 : Int), ((0 : Int), (0 : Int)))) :: ([] : List (Int × (Int × (Int × Int)))))) fun x94 =>
                    bif (decide ((List.length x94) ≤ (List.length x94))) then 
                     some ((a1, (a2, a3)), (List.take (List.length x94) x94))
                    else none
                   else
                    some ((a1, (a2, a3)), ([] : List (Int × (Int × (Int × Int)))))
                  else
                   some ((a1, (a2, a3)), ([] : List (Int × (Int × (Int × Int)))))
                else
                 bif (!((decide (a1 = a1)) && ((decide (a2 = a2)) && (decide (a3 = a3))))) then
                  bif (decide (a1 = (7 : Int))) then
                   bindO (some (((7 : Int), ((0 : Int), ((0 : Int), (0 : Int)))) :: ([] : List (Int × (Int × (Int × Int)))))) fun x95 =>
                   bif (decide ((List.length x95) ≤ (List.length x95))) then 
                    some ((a1, (a2, a3)), (List.take (List.length x95) x95))
                   else none
                  else
                   some ((a1, (a2, a3)), ([] : List (Int × (Int × (Int × Int)))))
                 else
                  some ((a1, (a2, a3)), ([] : List (Int × (Int × (Int × Int)))))
              else
               bif (decide (a4 = (2 : Int))) then
                bif (decide (a5 ≥ (200 : Int))) then
                 bif (decide (a5 ≤ (699 : Int))) then
                  bif (!((decide ((5 : Int) = a1)) && ((decide ((0 : Int) = a2)) && (decide (a5 = a3))))) then
                   some (((5 : Int), ((0 : Int), a5)), (((3 : Int), (a5, ((0 : Int), (0 : Int)))) :: (((4 : Int), ((0 : Int), ((11 : Int), (5000 : Int)))) :: ([] : List (Int × (Int × (Int × Int)))))))
                  else
                   some (((5 : Int), ((0 : Int), a5)), (((3 : Int), (a5, ((0 : Int), (0 : Int)))) :: (((4 : Int), ((0 : Int), ((11 : Int), (5000 : Int)))) :: ([] : List (Int × (Int × (Int × Int)))))))
                 else
                  bif (!((decide (a1 = a1)) && ((decide (a2 = a2)) && (decide (a3 = a3))))) then
                   bif (decide (a1 = (7 : Int))) then
                    bindO (some (((7 : Int), ((0 : Int), ((0 : Int), (0 : Int)))) :: ([] : List (Int × (Int × (Int × Int)))))) fun x96 =>
                    bif (decide ((List.length x96) ≤ (List.length x96))) then 
                     some ((a1, (a2, a3)), (List.take (List.length x96) x96))
                    else none
                   else
                    some ((a1, (a2, a3)), ([] : List (Int × (Int × (Int × Int)))))
                  else
                   some ((a1, (a2, a3)), ([] : List (Int × (Int × (Int × Int)))))
                else
                 bif (!((decide (a1 = a1)) && ((decide (a2 = a2)) && (decide (a3 = a3))))) then
                  bif (decide (a1 = (7 : Int))) then
                   bindO (some (((7 : Int), ((0 : Int), ((0 : Int), (0 : Int)))) :: ([] : List (Int × (Int × (Int × Int)))))) fun x97 =>
                   bif (decide ((List.length x97) ≤ (List.length x97))) then 
                    some ((a1, (a2, a3)), (List.take (List.length x97) x97))
                   else none
                  else
                   some ((a1, (a2, a3)), ([] : List (Int × (Int × (Int × Int)))))
                 else
                  some ((a1, (a2, a3)), ([] : List (Int × (Int × (Int × Int)))))
               else
                bif (!((decide (a1 = a1)) && ((decide (a2 = a2)) && (decide (a3 = a3))))) then
                 bif (decide (a1 = (7 : Int))) then
                  bindO (some (((7 : Int), ((0 : Int), ((0 : Int), (0 : Int)))) :: ([] : List (Int × (Int × (Int × Int)))))) fun x98 =>
                  bif (decide ((List.length x98) ≤ (List.length x98))) then 
                   some ((a1, (a2, a3)), (List.take (List.length x98) x98))
                  else none
                 else
                  some ((a1, (a2, a3)), ([] : List (Int × (Int × (Int × Int)))))
                else
                 some ((a1, (a2, a3)), ([] : List (Int × (Int × (Int × Int)))))
             else
              bif (decide (a4 = (2 : Int))) then
               bif (decide (a5 ≥ (200 : Int))) then
                bif (decide (a5 ≤ (699 : Int))) then
                 bif (!((decide ((5 : Int) = a1)) && ((decide ((0 : Int) = a2)) && (decide (a5 = a3))))) then
                  some (((5 : Int), ((0 : Int), a5)), (((3 : Int), (a5, ((0 : Int), (0 : Int)))) :: (((4 : Int), ((0 : Int), ((11 : Int), (5000 : Int)))) :: ([] : List (Int × (Int × (Int × Int)))))))
                 else
                  some (((5 : Int), ((0 : Int), a5)), (((3 : Int), (a5, ((0 : Int), (0 : Int)))) :: (((4 : Int), ((0 : Int), ((11 : Int), (5000 : Int)))) :: ([] : List (Int × (Int × (Int × Int)))))))
                else
                 bif (!((decide (a1 = a1)) && ((decide (a2 = a2)) && (decide (a3 = a3))))) then
                  bif (decide (a1 = (7 : Int))) then
                   bindO (some (((7 : Int), ((0 : Int), ((0 : Int), (0 : Int)))) :: ([] : List (Int × (Int × (Int × Int)))))) fun x99 =>
                   bif (decide ((List.length x99) ≤ (List.length x99))) then 
                    some ((a1, (a2, a3)), (List.take (List.length x99) x99))
                   else none
                  else
                   some ((a1, (a2, a3)), ([] : List (Int × (Int × (Int × Int)))))
                 else
                  some ((a1, (a2, a3)), ([] : List (Int × (Int × (Int × Int)))))
               else
                bif (!((decide (a1 = a1)) && ((decide (a2 = a2)) && (decide (a3 = a3))))) then
                 bif (decide (a1 = (7 : Int))) then
                  bindO (some (((7 : Int), ((0 : Int), ((0 : Int), (0 : Int)))) :: ([] : List (Int × (Int × (Int × Int)))))) fun x100 =>
                  bif (decide ((List.length x100) ≤ (List.length x100))) then 
                   some ((a1, (a2, a3)), (List.take (List.length x100) x100))
                  else none
                 else
                  some ((a1, (a2, a3)), ([] : List (Int × (Int × (Int × Int)))))
                else
                 some ((a1, (a2, a3)), ([] : List (Int × (Int × (Int × Int)))))
              else
               bif (!((decide (a1 = a1)) && ((decide (a2 = a2)) && (decide (a3 = a3))))) then
                bif (decide (a1 = (7 : Int))) then
                 bindO (some (((7 : Int), ((0 : Int), ((0 : Int), (0 : Int)))) :: ([] : List (Int × (Int × (Int × Int)))))) fun x101 =>
                 bif (decide ((List.length x101) ≤ (List.length x101))) then 
                  some ((a1, (a2, a3)), (List.take (List.length x101) x101))
                 else none
                else
                 some ((a1, (a2, a3)), ([] : List (Int × (Int × (Int × Int)))))
               else
                some ((a1, (a2, a3)), ([] : List (Int × (Int × (Int × Int)))))
         else
          bif (decide ((Int.toNat a1) = 1)) then
           none /- "call of what" -/
          else
           bif (decide ((Int.toNat a1) = 0)) then
            none /- "call of what" -/
           else
            none /- "load: index" -/
   else none
noncomputable def cons24 : List (Nat × CE) := [(10, ⟨[], riB, (fun _ => some true)⟩), (16, ⟨[], [(.tmp 0 true [(.dat (.int .u8)), (.dat (.int .i64)), (.dat (.int .i64))]), (.tmp 1 false [(.dat (.list (.pair (.int .u8) (.pair (.int .i64) (.pair (.int .u8) (.int .i64))))))])], client_Start⟩), (17, ⟨[], [(.tmp 0 true [(.dat (.int .u8)), (.dat (.int .i64)), (.dat (.int .i64))]), (.tmp 1 false [(.dat (.list (.pair (.int .u8) (.pair (.int .i64) (.pair (.int .u8) (.int .i64))))))])], dialtoneref13_Start⟩), (14, ⟨[(.tmp 0 true [(.dat (.int .u8)), (.dat (.int .i64)), (.dat (.int .i64))])], [(.tmp 0 false [(.dat .bool)])], client_May⟩), (34, ⟨[(.tmp 0 true [(.dat (.int .u8)), (.dat (.int .i64)), (.dat (.int .i64))])], [(.tmp 0 false [(.dat .bool)])], dialtoneref13_Short⟩), (35, ⟨[(.tmp 0 false [(.dat (.int .i64))]), (.tmp 1 false [(.dat (.int .i64))]), (.tmp 2 false [(.dat (.int .i64))])], [(.tmp 0 false [(.dat .bool)])], dialtoneref12_From⟩), (28, ⟨[(.tmp 0 true [(.dat (.int .u8)), (.dat (.int .i64)), (.dat (.int .i64))])], [(.tmp 0 false [(.dat .bool)])], dialtoneref13_May⟩)]
theorem cons24_ok : ConL Try.prog cons24 := ⟨con_true (by kernel_rfl) lives_o, con16, con17, con14, con34, con35, con28, trivial⟩
theorem con24 : ConOk Try.prog 24 ⟨[(.tmp 0 true [(.dat (.int .u8)), (.dat (.int .i64)), (.dat (.int .i64))]), (.tmp 1 true [(.dat (.int .u8)), (.dat (.int .i64)), (.dat (.int .u8))])], [(.tmp 0 true [(.dat (.int .u8)), (.dat (.int .i64)), (.dat (.int .i64))]), (.tmp 1 false [(.dat (.list (.pair (.int .u8) (.pair (.int .i64) (.pair (.int .u8) (.int .i64))))))])], client_Step⟩ :=
  tree_ok (plan := planOf plan24) (eg := egNo) KK tabL_ok (conOf_ok cons24_ok) Try.func24 (by kernel_rfl) (by kernel_rfl) 10000 (fun a r h => Eq.trans (show _ = client_Step a from by kernel_rfl) h)
/-! ### dialtone/client.Copies -/
def plan20 : List (Nat × PL) := [(35253762916865, (.carry [.drop 5, .drop 4, .tmp 3 false [(.dat (.int .i64))]])), (9241562426078398470, (.carry [.tmp 5 false [(.dat (.int .i64))], .tmp 4 false [(.dat (.int .i64))], .tmp 3 false [(.dat (.int .i64))]]))]
noncomputable def client_Copies : Int → Option Int := fun a1 =>
  joinO (loopO (fun (v2, (v3, v4)) =>
    bif (decide (v3 > a1)) then
     outO (some (Sum.inl v4))
    else
     bif (decide (v3 ≥ (32000 : Int))) then
      outO (some (Sum.inl v4))
     else
      some (Sum.inl ((minA (Go.IntKind.wrap .i64 ((2 : Int) * v2)) (4000 : Int)), ((Go.IntKind.wrap .i64 (v3 + v2)), (Go.IntKind.wrap .i64 (v4 + (1 : Int))))))) ((500 : Int), ((0 : Int), (0 : Int)))) fun v8 =>
  some v8
noncomputable def cons20 : List (Nat × CE) := [(10, ⟨[], riB, (fun _ => some true)⟩), (16, ⟨[], [(.tmp 0 true [(.dat (.int .u8)), (.dat (.int .i64)), (.dat (.int .i64))]), (.tmp 1 false [(.dat (.list (.pair (.int .u8) (.pair (.int .i64) (.pair (.int .u8) (.int .i64))))))])], client_Start⟩), (17, ⟨[], [(.tmp 0 true [(.dat (.int .u8)), (.dat (.int .i64)), (.dat (.int .i64))]), (.tmp 1 false [(.dat (.list (.pair (.int .u8) (.pair (.int .i64) (.pair (.int .u8) (.int .i64))))))])], dialtoneref13_Start⟩), (14, ⟨[(.tmp 0 true [(.dat (.int .u8)), (.dat (.int .i64)), (.dat (.int .i64))])], [(.tmp 0 false [(.dat .bool)])], client_May⟩), (34, ⟨[(.tmp 0 true [(.dat (.int .u8)), (.dat (.int .i64)), (.dat (.int .i64))])], [(.tmp 0 false [(.dat .bool)])], dialtoneref13_Short⟩), (35, ⟨[(.tmp 0 false [(.dat (.int .i64))]), (.tmp 1 false [(.dat (.int .i64))]), (.tmp 2 false [(.dat (.int .i64))])], [(.tmp 0 false [(.dat .bool)])], dialtoneref12_From⟩), (28, ⟨[(.tmp 0 true [(.dat (.int .u8)), (.dat (.int .i64)), (.dat (.int .i64))])], [(.tmp 0 false [(.dat .bool)])], dialtoneref13_May⟩), (24, ⟨[(.tmp 0 true [(.dat (.int .u8)), (.dat (.int .i64)), (.dat (.int .i64))]), (.tmp 1 true [(.dat (.int .u8)), (.dat (.int .i64)), (.dat (.int .u8))])], [(.tmp 0 true [(.dat (.int .u8)), (.dat (.int .i64)), (.dat (.int .i64))]), (.tmp 1 false [(.dat (.list (.pair (.int .u8) (.pair (.int .i64) (.pair (.int .u8) (.int .i64))))))])], client_Step⟩)]
theorem cons20_ok : ConL Try.prog cons20 := ⟨con_true (by kernel_rfl) lives_o, con16, con17, con14, con34, con35, con28, con24, trivial⟩
theorem con20 : ConOk Try.prog 20 ⟨[(.tmp 0 false [(.dat (.int .i64))])], [(.tmp 0 false [(.dat (.int .i64))])], client_Copies⟩ :=
  tree_ok (plan := planOf plan20) (eg := egNo) KK tabL_ok (conOf_ok cons20_ok) Try.func20 (by kernel_rfl) (by kernel_rfl) 10000 (fun a r h => Eq.trans (show _ = client_Copies a from by kernel_rfl) h)
/-! ### dialtone/dialtoneref13.open -/
def plan33 : List (Nat × PL) := []
noncomputable def dialtoneref13_open : ((Int × (Int × Int)) × (Int × (Int × Int))) → Option ((Int × (Int × Int)) × (List (Int × (Int × (Int × Int))))) := fun ((a1, (a2, a3)), (a4, (a5, a6))) =>
  bif (decide (a4 = (5 : Int))) then
   bif (decide (a6 = (5 : Int))) then
    bif (decide (a1 = (2 : Int))) then
     bindO (some (Go.IntKind.wrap .i64 ((2 : Int) * a2))) fun x7 =>
     some ((a1, ((minA x7 (4000 : Int)), a3)), (((1 : Int), ((0 : Int), ((0 : Int), (0 : Int)))) :: (((4 : Int), ((0 : Int), ((5 : Int), (minA x7 (4000 : Int))))) :: ([] : List (Int × (Int × (Int × Int)))))))
    else
     some ((a1, ((4000 : Int), a3)), (((1 : Int), ((0 : Int), ((0 : Int), (0 : Int)))) :: (((4 : Int), ((0 : Int), ((5 : Int), (4000 : Int)))) :: ([] : List (Int × (Int × (Int × Int)))))))
   else
    bif (decide (a4 = (5 : Int))) then
     bif (decide (a6 = (6 : Int))) then
      some (((7 : Int), ((0 : Int), (0 : Int))), (((5 : Int), ((0 : Int), ((0 : Int), (0 : Int)))) :: (((7 : Int), ((0 : Int), ((0 : Int), (0 : Int)))) :: ([] : List (Int × (Int × (Int × Int)))))))
     else
      bif (decide (a4 = (6 : Int))) then
       some (((7 : Int), ((0 : Int), (0 : Int))), (((6 : Int), ((0 : Int), ((0 : Int), (0 : Int)))) :: (((7 : Int), ((0 : Int), ((0 : Int), (0 : Int)))) :: ([] : List (Int × (Int × (Int × Int)))))))
      else
       bif (decide (a4 = (2 : Int))) then
        bindO (dialtoneref12_From (a5, ((100 : Int), (199 : Int)))) fun x8 =>
        bif x8 then
         some (((3 : Int), (a2, (0 : Int))), (((3 : Int), (a5, ((0 : Int), (0 : Int)))) :: ([] : List (Int × (Int × (Int × Int))))))
        else
         bif (decide (a4 = (2 : Int))) then
          bindO (dialtoneref12_From (a5, ((200 : Int), (699 : Int)))) fun x9 =>
          bif x9 then
           some (((5 : Int), ((0 : Int), a5)), (((3 : Int), (a5, ((0 : Int), (0 : Int)))) :: (((4 : Int), ((0 : Int), ((11 : Int), (5000 : Int)))) :: ([] : List (Int × (Int × (Int × Int)))))))
          else
           some ((a1, (a2, a3)), ([] : List (Int × (Int × (Int × Int)))))
         else
          some ((a1, (a2, a3)), ([] : List (Int × (Int × (Int × Int)))))
       else
        bif (decide (a4 = (2 : Int))) then
         bindO (dialtoneref12_From (a5, ((200 : Int), (699 : Int)))) fun x10 =>
         bif x10 then
          some (((5 : Int), ((0 : Int), a5)), (((3 : Int), (a5, ((0 : Int), (0 : Int)))) :: (((4 : Int), ((0 : Int), ((11 : Int), (5000 : Int)))) :: ([] : List (Int × (Int × (Int × Int)))))))
         else
          some ((a1, (a2, a3)), ([] : List (Int × (Int × (Int × Int)))))
        else
         some ((a1, (a2, a3)), ([] : List (Int × (Int × (Int × Int)))))
    else
     bif (decide (a4 = (6 : Int))) then
      some (((7 : Int), ((0 : Int), (0 : Int))), (((6 : Int), ((0 : Int), ((0 : Int), (0 : Int)))) :: (((7 : Int), ((0 : Int), ((0 : Int), (0 : Int)))) :: ([] : List (Int × (Int × (Int × Int)))))))
     else
      bif (decide (a4 = (2 : Int))) then
       bindO (dialtoneref12_From (a5, ((100 : Int), (199 : Int)))) fun x11 =>
       bif x11 then
        some (((3 : Int), (a2, (0 : Int))), (((3 : Int), (a5, ((0 : Int), (0 : Int)))) :: ([] : List (Int × (Int × (Int × Int))))))
       else
        bif (decide (a4 = (2 : Int))) then
         bindO (dialtoneref12_From (a5, ((200 : Int), (699 : Int)))) fun x12 =>
         bif x12 then
          some (((5 : Int), ((0 : Int), a5)), (((3 : Int), (a5, ((0 : Int), (0 : Int)))) :: (((4 : Int), ((0 : Int), ((11 : Int), (5000 : Int)))) :: ([] : List (Int × (Int × (Int × Int)))))))
         else
          some ((a1, (a2, a3)), ([] : List (Int × (Int × (Int × Int)))))
        else
         some ((a1, (a2, a3)), ([] : List (Int × (Int × (Int × Int)))))
      else
       bif (decide (a4 = (2 : Int))) then
        bindO (dialtoneref12_From (a5, ((200 : Int), (699 : Int)))) fun x13 =>
        bif x13 then
         some (((5 : Int), ((0 : Int), a5)), (((3 : Int), (a5, ((0 : Int), (0 : Int)))) :: (((4 : Int), ((0 : Int), ((11 : Int), (5000 : Int)))) :: ([] : List (Int × (Int × (Int × Int)))))))
        else
         some ((a1, (a2, a3)), ([] : List (Int × (Int × (Int × Int)))))
       else
        some ((a1, (a2, a3)), ([] : List (Int × (Int × (Int × Int)))))
  else
   bif (decide (a4 = (5 : Int))) then
    bif (decide (a6 = (6 : Int))) then
     some (((7 : Int), ((0 : Int), (0 : Int))), (((5 : Int), ((0 : Int), ((0 : Int), (0 : Int)))) :: (((7 : Int), ((0 : Int), ((0 : Int), (0 : Int)))) :: ([] : List (Int × (Int × (Int × Int)))))))
    else
     bif (decide (a4 = (6 : Int))) then
      some (((7 : Int), ((0 : Int), (0 : Int))), (((6 : Int), ((0 : Int), ((0 : Int), (0 : Int)))) :: (((7 : Int), ((0 : Int), ((0 : Int), (0 : Int)))) :: ([] : List (Int × (Int × (Int × Int)))))))
     else
      bif (decide (a4 = (2 : Int))) then
       bindO (dialtoneref12_From (a5, ((100 : Int), (199 : Int)))) fun x14 =>
       bif x14 then
        some (((3 : Int), (a2, (0 : Int))), (((3 : Int), (a5, ((0 : Int), (0 : Int)))) :: ([] : List (Int × (Int × (Int × Int))))))
       else
        bif (decide (a4 = (2 : Int))) then
         bindO (dialtoneref12_From (a5, ((200 : Int), (699 : Int)))) fun x15 =>
         bif x15 then
          some (((5 : Int), ((0 : Int), a5)), (((3 : Int), (a5, ((0 : Int), (0 : Int)))) :: (((4 : Int), ((0 : Int), ((11 : Int), (5000 : Int)))) :: ([] : List (Int × (Int × (Int × Int)))))))
         else
          some ((a1, (a2, a3)), ([] : List (Int × (Int × (Int × Int)))))
        else
         some ((a1, (a2, a3)), ([] : List (Int × (Int × (Int × Int)))))
      else
       bif (decide (a4 = (2 : Int))) then
        bindO (dialtoneref12_From (a5, ((200 : Int), (699 : Int)))) fun x16 =>
        bif x16 then
         some (((5 : Int), ((0 : Int), a5)), (((3 : Int), (a5, ((0 : Int), (0 : Int)))) :: (((4 : Int), ((0 : Int), ((11 : Int), (5000 : Int)))) :: ([] : List (Int × (Int × (Int × Int)))))))
        else
         some ((a1, (a2, a3)), ([] : List (Int × (Int × (Int × Int)))))
       else
        some ((a1, (a2, a3)), ([] : List (Int × (Int × (Int × Int)))))
   else
    bif (decide (a4 = (6 : Int))) then
     some (((7 : Int), ((0 : Int), (0 : Int))), (((6 : Int), ((0 : Int), ((0 : Int), (0 : Int)))) :: (((7 : Int), ((0 : Int), ((0 : Int), (0 : Int)))) :: ([] : List (Int × (Int × (Int × Int)))))))
    else
     bif (decide (a4 = (2 : Int))) then
      bindO (dialtoneref12_From (a5, ((100 : Int), (199 : Int)))) fun x17 =>
      bif x17 then
       some (((3 : Int), (a2, (0 : Int))), (((3 : Int), (a5, ((0 : Int), (0 : Int)))) :: ([] : List (Int × (Int × (Int × Int))))))
      else
       bif (decide (a4 = (2 : Int))) then
        bindO (dialtoneref12_From (a5, ((200 : Int), (699 : Int)))) fun x18 =>
        bif x18 then
         some (((5 : Int), ((0 : Int), a5)), (((3 : Int), (a5, ((0 : Int), (0 : Int)))) :: (((4 : Int), ((0 : Int), ((11 : Int), (5000 : Int)))) :: ([] : List (Int × (Int × (Int × Int)))))))
        else
         some ((a1, (a2, a3)), ([] : List (Int × (Int × (Int × Int)))))
       else
        some ((a1, (a2, a3)), ([] : List (Int × (Int × (Int × Int)))))
     else
      bif (decide (a4 = (2 : Int))) then
       bindO (dialtoneref12_From (a5, ((200 : Int), (699 : Int)))) fun x19 =>
       bif x19 then
        some (((5 : Int), ((0 : Int), a5)), (((3 : Int), (a5, ((0 : Int), (0 : Int)))) :: (((4 : Int), ((0 : Int), ((11 : Int), (5000 : Int)))) :: ([] : List (Int × (Int × (Int × Int)))))))
       else
        some ((a1, (a2, a3)), ([] : List (Int × (Int × (Int × Int)))))
      else
       some ((a1, (a2, a3)), ([] : List (Int × (Int × (Int × Int)))))
noncomputable def cons33 : List (Nat × CE) := [(10, ⟨[], riB, (fun _ => some true)⟩), (16, ⟨[], [(.tmp 0 true [(.dat (.int .u8)), (.dat (.int .i64)), (.dat (.int .i64))]), (.tmp 1 false [(.dat (.list (.pair (.int .u8) (.pair (.int .i64) (.pair (.int .u8) (.int .i64))))))])], client_Start⟩), (17, ⟨[], [(.tmp 0 true [(.dat (.int .u8)), (.dat (.int .i64)), (.dat (.int .i64))]), (.tmp 1 false [(.dat (.list (.pair (.int .u8) (.pair (.int .i64) (.pair (.int .u8) (.int .i64))))))])], dialtoneref13_Start⟩), (14, ⟨[(.tmp 0 true [(.dat (.int .u8)), (.dat (.int .i64)), (.dat (.int .i64))])], [(.tmp 0 false [(.dat .bool)])], client_May⟩), (34, ⟨[(.tmp 0 true [(.dat (.int .u8)), (.dat (.int .i64)), (.dat (.int .i64))])], [(.tmp 0 false [(.dat .bool)])], dialtoneref13_Short⟩), (35, ⟨[(.tmp 0 false [(.dat (.int .i64))]), (.tmp 1 false [(.dat (.int .i64))]), (.tmp 2 false [(.dat (.int .i64))])], [(.tmp 0 false [(.dat .bool)])], dialtoneref12_From⟩), (28, ⟨[(.tmp 0 true [(.dat (.int .u8)), (.dat (.int .i64)), (.dat (.int .i64))])], [(.tmp 0 false [(.dat .bool)])], dialtoneref13_May⟩), (24, ⟨[(.tmp 0 true [(.dat (.int .u8)), (.dat (.int .i64)), (.dat (.int .i64))]), (.tmp 1 true [(.dat (.int .u8)), (.dat (.int .i64)), (.dat (.int .u8))])], [(.tmp 0 true [(.dat (.int .u8)), (.dat (.int .i64)), (.dat (.int .i64))]), (.tmp 1 false [(.dat (.list (.pair (.int .u8) (.pair (.int .i64) (.pair (.int .u8) (.int .i64))))))])], client_Step⟩), (20, ⟨[(.tmp 0 false [(.dat (.int .i64))])], [(.tmp 0 false [(.dat (.int .i64))])], client_Copies⟩)]
theorem cons33_ok : ConL Try.prog cons33 := ⟨con_true (by kernel_rfl) lives_o, con16, con17, con14, con34, con35, con28, con24, con20, trivial⟩
theorem con33 : ConOk Try.prog 33 ⟨[(.tmp 0 true [(.dat (.int .u8)), (.dat (.int .i64)), (.dat (.int .i64))]), (.tmp 1 true [(.dat (.int .u8)), (.dat (.int .i64)), (.dat (.int .u8))])], [(.tmp 0 true [(.dat (.int .u8)), (.dat (.int .i64)), (.dat (.int .i64))]), (.tmp 1 false [(.dat (.list (.pair (.int .u8) (.pair (.int .i64) (.pair (.int .u8) (.int .i64))))))])], dialtoneref13_open⟩ :=
  tree_ok (plan := planOf plan33) (eg := egNo) KK tabL_ok (conOf_ok cons33_ok) Try.func33 (by kernel_rfl) (by kernel_rfl) 10000 (fun a r h => Eq.trans (show _ = dialtoneref13_open a from by kernel_rfl) h)
/-! ### dialtone/dialtoneref13.Step -/
def plan27 : List (Nat × PL) := []
noncomputable def dialtoneref13_Step : ((Int × (Int × Int)) × (Int × (Int × Int))) → Option ((Int × (Int × Int)) × (List (Int × (Int × (Int × Int))))) := fun ((a1, (a2, a3)), (a4, (a5, a6))) =>
  bindO (dialtoneref13_May (a1, (a2, a3))) fun x7 =>
  bif (!x7) then
   some (((0 : Int), ((0 : Int), (0 : Int))), ([] : List (Int × (Int × (Int × Int)))))
  else
   bif (decide (a1 = (2 : Int))) then
    bindO (dialtoneref13_open ((a1, (a2, a3)), (a4, (a5, a6)))) fun ((x9, (x10, x11)), x12) =>
    some ((x9, (x10, x11)), x12)
   else
    bif (decide (a1 = (3 : Int))) then
     bindO (dialtoneref13_open ((a1, (a2, a3)), (a4, (a5, a6)))) fun ((x14, (x15, x16)), x17) =>
     some ((x14, (x15, x16)), x17)
    else
     bif (decide (a1 = (5 : Int))) then
      bif (decide (a4 = (5 : Int))) then
       bif (decide (a6 = (11 : Int))) then
        some (((7 : Int), ((0 : Int), a3)), (((7 : Int), ((0 : Int), ((0 : Int), (0 : Int)))) :: ([] : List (Int × (Int × (Int × Int))))))
       else
        some ((a1, (a2, a3)), ([] : List (Int × (Int × (Int × Int)))))
      else
       some ((a1, (a2, a3)), ([] : List (Int × (Int × (Int × Int)))))
     else
      some ((a1, (a2, a3)), ([] : List (Int × (Int × (Int × Int)))))
noncomputable def cons27 : List (Nat × CE) := [(10, ⟨[], riB, (fun _ => some true)⟩), (16, ⟨[], [(.tmp 0 true [(.dat (.int .u8)), (.dat (.int .i64)), (.dat (.int .i64))]), (.tmp 1 false [(.dat (.list (.pair (.int .u8) (.pair (.int .i64) (.pair (.int .u8) (.int .i64))))))])], client_Start⟩), (17, ⟨[], [(.tmp 0 true [(.dat (.int .u8)), (.dat (.int .i64)), (.dat (.int .i64))]), (.tmp 1 false [(.dat (.list (.pair (.int .u8) (.pair (.int .i64) (.pair (.int .u8) (.int .i64))))))])], dialtoneref13_Start⟩), (14, ⟨[(.tmp 0 true [(.dat (.int .u8)), (.dat (.int .i64)), (.dat (.int .i64))])], [(.tmp 0 false [(.dat .bool)])], client_May⟩), (34, ⟨[(.tmp 0 true [(.dat (.int .u8)), (.dat (.int .i64)), (.dat (.int .i64))])], [(.tmp 0 false [(.dat .bool)])], dialtoneref13_Short⟩), (35, ⟨[(.tmp 0 false [(.dat (.int .i64))]), (.tmp 1 false [(.dat (.int .i64))]), (.tmp 2 false [(.dat (.int .i64))])], [(.tmp 0 false [(.dat .bool)])], dialtoneref12_From⟩), (28, ⟨[(.tmp 0 true [(.dat (.int .u8)), (.dat (.int .i64)), (.dat (.int .i64))])], [(.tmp 0 false [(.dat .bool)])], dialtoneref13_May⟩), (24, ⟨[(.tmp 0 true [(.dat (.int .u8)), (.dat (.int .i64)), (.dat (.int .i64))]), (.tmp 1 true [(.dat (.int .u8)), (.dat (.int .i64)), (.dat (.int .u8))])], [(.tmp 0 true [(.dat (.int .u8)), (.dat (.int .i64)), (.dat (.int .i64))]), (.tmp 1 false [(.dat (.list (.pair (.int .u8) (.pair (.int .i64) (.pair (.int .u8) (.int .i64))))))])], client_Step⟩), (20, ⟨[(.tmp 0 false [(.dat (.int .i64))])], [(.tmp 0 false [(.dat (.int .i64))])], client_Copies⟩), (33, ⟨[(.tmp 0 true [(.dat (.int .u8)), (.dat (.int .i64)), (.dat (.int .i64))]), (.tmp 1 true [(.dat (.int .u8)), (.dat (.int .i64)), (.dat (.int .u8))])], [(.tmp 0 true [(.dat (.int .u8)), (.dat (.int .i64)), (.dat (.int .i64))]), (.tmp 1 false [(.dat (.list (.pair (.int .u8) (.pair (.int .i64) (.pair (.int .u8) (.int .i64))))))])], dialtoneref13_open⟩)]
theorem cons27_ok : ConL Try.prog cons27 := ⟨con_true (by kernel_rfl) lives_o, con16, con17, con14, con34, con35, con28, con24, con20, con33, trivial⟩
theorem con27 : ConOk Try.prog 27 ⟨[(.tmp 0 true [(.dat (.int .u8)), (.dat (.int .i64)), (.dat (.int .i64))]), (.tmp 1 true [(.dat (.int .u8)), (.dat (.int .i64)), (.dat (.int .u8))])], [(.tmp 0 true [(.dat (.int .u8)), (.dat (.int .i64)), (.dat (.int .i64))]), (.tmp 1 false [(.dat (.list (.pair (.int .u8) (.pair (.int .i64) (.pair (.int .u8) (.int .i64))))))])], dialtoneref13_Step⟩ :=
  tree_ok (plan := planOf plan27) (eg := egNo) KK tabL_ok (conOf_ok cons27_ok) Try.func27 (by kernel_rfl) (by kernel_rfl) 10000 (fun a r h => Eq.trans (show _ = dialtoneref13_Step a from by kernel_rfl) h)
/-! ### dialtone/dialtoneref13.Copies -/
def plan21 : List (Nat × PL) := [(68853957121, (.carry [.tmp 3 false [(.dat (.int .i64))]])), (9241421688456087558, (.carry [.tmp 5 false [(.dat (.int .i64))], .tmp 3 false [(.dat (.int .i64))]]))]
noncomputable def dialtoneref13_Copies : Int → Option Int := fun a1 =>
  joinO (loopO (fun (v2, v3) =>
    bif (decide (v2 < (11 : Int))) then
     bif (decide (((0 : Int) ≤ v2) ∧ (v2 < (11 : Int)))) then 
      bindO ((0 : Int) :: ((500 : Int) :: ((1500 : Int) :: ((3500 : Int) :: ((7500 : Int) :: ((11500 : Int) :: ((15500 : Int) :: ((19500 : Int) :: ((23500 : Int) :: ((27500 : Int) :: ((31500 : Int) :: ([] : List Int))))))))))))[(Int.toNat v2)]? fun x4 =>
      bif (decide (x4 ≤ a1)) then
       some (Sum.inl ((Go.IntKind.wrap .i64 (v2 + (1 : Int))), (Go.IntKind.wrap .i64 (v3 + (1 : Int)))))
      else
       some (Sum.inl ((Go.IntKind.wrap .i64 (v2 + (1 : Int))), v3))
     else none
    else
     outO (some (Sum.inl v3))) ((0 : Int), (0 : Int))) fun v8 =>
  some v8
noncomputable def cons21 : List (Nat × CE) := [(10, ⟨[], riB, (fun _ => some true)⟩), (16, ⟨[], [(.tmp 0 true [(.dat (.int .u8)), (.dat (.int .i64)), (.dat (.int .i64))]), (.tmp 1 false [(.dat (.list (.pair (.int .u8) (.pair (.int .i64) (.pair (.int .u8) (.int .i64))))))])], client_Start⟩), (17, ⟨[], [(.tmp 0 true [(.dat (.int .u8)), (.dat (.int .i64)), (.dat (.int .i64))]), (.tmp 1 false [(.dat (.list (.pair (.int .u8) (.pair (.int .i64) (.pair (.int .u8) (.int .i64))))))])], dialtoneref13_Start⟩), (14, ⟨[(.tmp 0 true [(.dat (.int .u8)), (.dat (.int .i64)), (.dat (.int .i64))])], [(.tmp 0 false [(.dat .bool)])], client_May⟩), (34, ⟨[(.tmp 0 true [(.dat (.int .u8)), (.dat (.int .i64)), (.dat (.int .i64))])], [(.tmp 0 false [(.dat .bool)])], dialtoneref13_Short⟩), (35, ⟨[(.tmp 0 false [(.dat (.int .i64))]), (.tmp 1 false [(.dat (.int .i64))]), (.tmp 2 false [(.dat (.int .i64))])], [(.tmp 0 false [(.dat .bool)])], dialtoneref12_From⟩), (28, ⟨[(.tmp 0 true [(.dat (.int .u8)), (.dat (.int .i64)), (.dat (.int .i64))])], [(.tmp 0 false [(.dat .bool)])], dialtoneref13_May⟩), (24, ⟨[(.tmp 0 true [(.dat (.int .u8)), (.dat (.int .i64)), (.dat (.int .i64))]), (.tmp 1 true [(.dat (.int .u8)), (.dat (.int .i64)), (.dat (.int .u8))])], [(.tmp 0 true [(.dat (.int .u8)), (.dat (.int .i64)), (.dat (.int .i64))]), (.tmp 1 false [(.dat (.list (.pair (.int .u8) (.pair (.int .i64) (.pair (.int .u8) (.int .i64))))))])], client_Step⟩), (20, ⟨[(.tmp 0 false [(.dat (.int .i64))])], [(.tmp 0 false [(.dat (.int .i64))])], client_Copies⟩), (33, ⟨[(.tmp 0 true [(.dat (.int .u8)), (.dat (.int .i64)), (.dat (.int .i64))]), (.tmp 1 true [(.dat (.int .u8)), (.dat (.int .i64)), (.dat (.int .u8))])], [(.tmp 0 true [(.dat (.int .u8)), (.dat (.int .i64)), (.dat (.int .i64))]), (.tmp 1 false [(.dat (.list (.pair (.int .u8) (.pair (.int .i64) (.pair (.int .u8) (.int .i64))))))])], dialtoneref13_open⟩), (27, ⟨[(.tmp 0 true [(.dat (.int .u8)), (.dat (.int .i64)), (.dat (.int .i64))]), (.tmp 1 true [(.dat (.int .u8)), (.dat (.int .i64)), (.dat (.int .u8))])], [(.tmp 0 true [(.dat (.int .u8)), (.dat (.int .i64)), (.dat (.int .i64))]), (.tmp 1 false [(.dat (.list (.pair (.int .u8) (.pair (.int .i64) (.pair (.int .u8) (.int .i64))))))])], dialtoneref13_Step⟩)]
theorem cons21_ok : ConL Try.prog cons21 := ⟨con_true (by kernel_rfl) lives_o, con16, con17, con14, con34, con35, con28, con24, con20, con33, con27, trivial⟩
theorem con21 : ConOk Try.prog 21 ⟨[(.tmp 0 false [(.dat (.int .i64))])], [(.tmp 0 false [(.dat (.int .i64))])], dialtoneref13_Copies⟩ :=
  tree_ok (plan := planOf plan21) (eg := egNo) KK tabL_ok (conOf_ok cons21_ok) Try.func21 (by kernel_rfl) (by kernel_rfl) 10000 (fun a r h => Eq.trans (show _ = dialtoneref13_Copies a from by kernel_rfl) h)
/-! ### dialtone/dialtoneref12.Same -/
def plan18 : List (Nat × PL) := [(134480385, (.carry [])), (18049651601311750, (.carry [.tmp 5 false [(.dat (.int .i64))]]))]
noncomputable def dialtoneref12_Same : ((List (Int × (Int × (Int × Int)))) × (List (Int × (Int × (Int × Int))))) → Option Bool := fun (a1, a2) =>
  bif (decide ((((List.length a1) : Nat) : Int) ≠ (((List.length a2) : Nat) : Int))) then
   some Bool.false
  else
   joinO (loopO (fun v3 =>
     bif (decide (v3 < (((List.length a1) : Nat) : Int))) then
      bif (decide (((0 : Int) ≤ v3) ∧ (v3 < (((List.length a1) : Nat) : Int)))) then 
       bindO a1[(Int.toNat v3)]? fun x4 =>
       bif (decide (((0 : Int) ≤ v3) ∧ (v3 < (((List.length a2) : Nat) : Int)))) then 
        bindO a2[(Int.toNat v3)]? fun x5 =>
        bif (!((decide (x4.1 = x5.1)) && ((decide (x4.2.1 = x5.2.1)) && ((decide (x4.2.2.1 = x5.2.2.1)) && (decide (x4.2.2.2 = x5.2.2.2)))))) then
         outO (outO (some Bool.false))
        else
         some (Sum.inl (Go.IntKind.wrap .i64 (v3 + (1 : Int))))
       else none
      else none
     else
      outO (some (Sum.inl ()))) (0 : Int)) fun _ =>
   some Bool.true
noncomputable def cons18 : List (Nat × CE) := [(10, ⟨[], riB, (fun _ => some true)⟩), (16, ⟨[], [(.tmp 0 true [(.dat (.int .u8)), (.dat (.int .i64)), (.dat (.int .i64))]), (.tmp 1 false [(.dat (.list (.pair (.int .u8) (.pair (.int .i64) (.pair (.int .u8) (.int .i64))))))])], client_Start⟩), (17, ⟨[], [(.tmp 0 true [(.dat (.int .u8)), (.dat (.int .i64)), (.dat (.int .i64))]), (.tmp 1 false [(.dat (.list (.pair (.int .u8) (.pair (.int .i64) (.pair (.int .u8) (.int .i64))))))])], dialtoneref13_Start⟩), (14, ⟨[(.tmp 0 true [(.dat (.int .u8)), (.dat (.int .i64)), (.dat (.int .i64))])], [(.tmp 0 false [(.dat .bool)])], client_May⟩), (34, ⟨[(.tmp 0 true [(.dat (.int .u8)), (.dat (.int .i64)), (.dat (.int .i64))])], [(.tmp 0 false [(.dat .bool)])], dialtoneref13_Short⟩), (35, ⟨[(.tmp 0 false [(.dat (.int .i64))]), (.tmp 1 false [(.dat (.int .i64))]), (.tmp 2 false [(.dat (.int .i64))])], [(.tmp 0 false [(.dat .bool)])], dialtoneref12_From⟩), (28, ⟨[(.tmp 0 true [(.dat (.int .u8)), (.dat (.int .i64)), (.dat (.int .i64))])], [(.tmp 0 false [(.dat .bool)])], dialtoneref13_May⟩), (24, ⟨[(.tmp 0 true [(.dat (.int .u8)), (.dat (.int .i64)), (.dat (.int .i64))]), (.tmp 1 true [(.dat (.int .u8)), (.dat (.int .i64)), (.dat (.int .u8))])], [(.tmp 0 true [(.dat (.int .u8)), (.dat (.int .i64)), (.dat (.int .i64))]), (.tmp 1 false [(.dat (.list (.pair (.int .u8) (.pair (.int .i64) (.pair (.int .u8) (.int .i64))))))])], client_Step⟩), (20, ⟨[(.tmp 0 false [(.dat (.int .i64))])], [(.tmp 0 false [(.dat (.int .i64))])], client_Copies⟩), (33, ⟨[(.tmp 0 true [(.dat (.int .u8)), (.dat (.int .i64)), (.dat (.int .i64))]), (.tmp 1 true [(.dat (.int .u8)), (.dat (.int .i64)), (.dat (.int .u8))])], [(.tmp 0 true [(.dat (.int .u8)), (.dat (.int .i64)), (.dat (.int .i64))]), (.tmp 1 false [(.dat (.list (.pair (.int .u8) (.pair (.int .i64) (.pair (.int .u8) (.int .i64))))))])], dialtoneref13_open⟩), (27, ⟨[(.tmp 0 true [(.dat (.int .u8)), (.dat (.int .i64)), (.dat (.int .i64))]), (.tmp 1 true [(.dat (.int .u8)), (.dat (.int .i64)), (.dat (.int .u8))])], [(.tmp 0 true [(.dat (.int .u8)), (.dat (.int .i64)), (.dat (.int .i64))]), (.tmp 1 false [(.dat (.list (.pair (.int .u8) (.pair (.int .i64) (.pair (.int .u8) (.int .i64))))))])], dialtoneref13_Step⟩), (21, ⟨[(.tmp 0 false [(.dat (.int .i64))])], [(.tmp 0 false [(.dat (.int .i64))])], dialtoneref13_Copies⟩)]
theorem cons18_ok : ConL Try.prog cons18 := ⟨con_true (by kernel_rfl) lives_o, con16, con17, con14, con34, con35, con28, con24, con20, con33, con27, con21, trivial⟩
theorem con18 : ConOk Try.prog 18 ⟨[(.tmp 0 false [(.dat (.list (.pair (.int .u8) (.pair (.int .i64) (.pair (.int .u8) (.int .i64))))))]), (.tmp 1 false [(.dat (.list (.pair (.int .u8) (.pair (.int .i64) (.pair (.int .u8) (.int .i64))))))])], [(.tmp 0 false [(.dat .bool)])], dialtoneref12_Same⟩ :=
  tree_ok (plan := planOf plan18) (eg := egNo) KK tabL_ok (conOf_ok cons18_ok) Try.func18 (by kernel_rfl) (by kernel_rfl) 10000 (fun a r h => Eq.trans (show _ = dialtoneref12_Same a from by kernel_rfl) h)
/-! ### dialtone/dialtonelaw13.step -/
def plan19 : List (Nat × PL) := []
noncomputable def dialtonelaw13_step : ((Int × (Int × Int)) × (Int × (Int × Int))) → Option Bool := fun ((a1, (a2, a3)), (a4, (a5, a6))) =>
  bindO (client_Step ((a1, (a2, a3)), (a4, (a5, a6)))) fun ((x8, (x9, x10)), x11) =>
  bindO (dialtoneref13_Step ((a1, (a2, a3)), (a4, (a5, a6)))) fun ((x13, (x14, x15)), x16) =>
  bif ((decide (x8 = x13)) && ((decide (x9 = x14)) && (decide (x10 = x15)))) then
   bindO (dialtoneref12_Same (x11, x16)) fun x17 =>
   bif x17 then
    bindO (client_May (a1, (a2, a3))) fun x18 =>
    bindO (dialtoneref13_May (a1, (a2, a3))) fun x19 =>
    some (x18 == x19)
   else
    some Bool.false
  else
   some Bool.false
noncomputable def cons19 : List (Nat × CE) := [(10, ⟨[], riB, (fun _ => some true)⟩), (16, ⟨[], [(.tmp 0 true [(.dat (.int .u8)), (.dat (.int .i64)), (.dat (.int .i64))]), (.tmp 1 false [(.dat (.list (.pair (.int .u8) (.pair (.int .i64) (.pair (.int .u8) (.int .i64))))))])], client_Start⟩), (17, ⟨[], [(.tmp 0 true [(.dat (.int .u8)), (.dat (.int .i64)), (.dat (.int .i64))]), (.tmp 1 false [(.dat (.list (.pair (.int .u8) (.pair (.int .i64) (.pair (.int .u8) (.int .i64))))))])], dialtoneref13_Start⟩), (14, ⟨[(.tmp 0 true [(.dat (.int .u8)), (.dat (.int .i64)), (.dat (.int .i64))])], [(.tmp 0 false [(.dat .bool)])], client_May⟩), (34, ⟨[(.tmp 0 true [(.dat (.int .u8)), (.dat (.int .i64)), (.dat (.int .i64))])], [(.tmp 0 false [(.dat .bool)])], dialtoneref13_Short⟩), (35, ⟨[(.tmp 0 false [(.dat (.int .i64))]), (.tmp 1 false [(.dat (.int .i64))]), (.tmp 2 false [(.dat (.int .i64))])], [(.tmp 0 false [(.dat .bool)])], dialtoneref12_From⟩), (28, ⟨[(.tmp 0 true [(.dat (.int .u8)), (.dat (.int .i64)), (.dat (.int .i64))])], [(.tmp 0 false [(.dat .bool)])], dialtoneref13_May⟩), (24, ⟨[(.tmp 0 true [(.dat (.int .u8)), (.dat (.int .i64)), (.dat (.int .i64))]), (.tmp 1 true [(.dat (.int .u8)), (.dat (.int .i64)), (.dat (.int .u8))])], [(.tmp 0 true [(.dat (.int .u8)), (.dat (.int .i64)), (.dat (.int .i64))]), (.tmp 1 false [(.dat (.list (.pair (.int .u8) (.pair (.int .i64) (.pair (.int .u8) (.int .i64))))))])], client_Step⟩), (20, ⟨[(.tmp 0 false [(.dat (.int .i64))])], [(.tmp 0 false [(.dat (.int .i64))])], client_Copies⟩), (33, ⟨[(.tmp 0 true [(.dat (.int .u8)), (.dat (.int .i64)), (.dat (.int .i64))]), (.tmp 1 true [(.dat (.int .u8)), (.dat (.int .i64)), (.dat (.int .u8))])], [(.tmp 0 true [(.dat (.int .u8)), (.dat (.int .i64)), (.dat (.int .i64))]), (.tmp 1 false [(.dat (.list (.pair (.int .u8) (.pair (.int .i64) (.pair (.int .u8) (.int .i64))))))])], dialtoneref13_open⟩), (27, ⟨[(.tmp 0 true [(.dat (.int .u8)), (.dat (.int .i64)), (.dat (.int .i64))]), (.tmp 1 true [(.dat (.int .u8)), (.dat (.int .i64)), (.dat (.int .u8))])], [(.tmp 0 true [(.dat (.int .u8)), (.dat (.int .i64)), (.dat (.int .i64))]), (.tmp 1 false [(.dat (.list (.pair (.int .u8) (.pair (.int .i64) (.pair (.int .u8) (.int .i64))))))])], dialtoneref13_Step⟩), (21, ⟨[(.tmp 0 false [(.dat (.int .i64))])], [(.tmp 0 false [(.dat (.int .i64))])], dialtoneref13_Copies⟩), (18, ⟨[(.tmp 0 false [(.dat (.list (.pair (.int .u8) (.pair (.int .i64) (.pair (.int .u8) (.int .i64))))))]), (.tmp 1 false [(.dat (.list (.pair (.int .u8) (.pair (.int .i64) (.pair (.int .u8) (.int .i64))))))])], [(.tmp 0 false [(.dat .bool)])], dialtoneref12_Same⟩)]
theorem cons19_ok : ConL Try.prog cons19 := ⟨con_true (by kernel_rfl) lives_o, con16, con17, con14, con34, con35, con28, con24, con20, con33, con27, con21, con18, trivial⟩
theorem con19 : ConOk Try.prog 19 ⟨[(.tmp 0 true [(.dat (.int .u8)), (.dat (.int .i64)), (.dat (.int .i64))]), (.tmp 1 true [(.dat (.int .u8)), (.dat (.int .i64)), (.dat (.int .u8))])], [(.tmp 0 false [(.dat .bool)])], dialtonelaw13_step⟩ :=
  tree_ok (plan := planOf plan19) (eg := egNo) KK tabL_ok (conOf_ok cons19_ok) Try.func19 (by kernel_rfl) (by kernel_rfl) 10000 (fun a r h => Eq.trans (show _ = dialtonelaw13_step a from by kernel_rfl) h)
/-! ### dialtone/dialtonelaw13.inputs -/
def plan9 : List (Nat × PL) := [(262657, (.carry [])), (35253091829766, (.carry [.tmp 5 false [(.dat (.int .i64))]])), (134480385, (.carry [])), (9241386504622178817, (.carry [])), (18049651601311750, (.carry [.tmp 7 false [(.dat (.int .i64))]])), (635063244912768173616281159686, (.carry [.tmp 6 false [(.dat (.int .i64))]]))]
noncomputable def dialtonelaw13_inputs : ((Int × (Int × Int)) × (List Int)) → Option Bool := fun ((a1, (a2, a3)), a4) =>
  joinO (loopO (fun v5 =>
    bif (decide (v5 < (8 : Int))) then
     joinO (loopO (fun v6 =>
       bif (decide (v6 < (((List.length a4) : Nat) : Int))) then
        bif (decide (((0 : Int) ≤ v6) ∧ (v6 < (((List.length a4) : Nat) : Int)))) then 
         bindO a4[(Int.toNat v6)]? fun x8 =>
         bindO (dialtonelaw13_step ((a1, (a2, a3)), ((Go.IntKind.wrap .u8 v5), (x8, (0 : Int))))) fun x9 =>
         bif (!x9) then
          outO (outO (outO (outO (some Bool.false))))
         else
          some (Sum.inl (Go.IntKind.wrap .i64 (v6 + (1 : Int))))
        else none
       else
        outO (some (Sum.inl ()))) (0 : Int)) fun _ =>
     some (Sum.inl (Go.IntKind.wrap .i64 (v5 + (1 : Int))))
    else
     outO (some (Sum.inl ()))) (0 : Int)) fun _ =>
  joinO (loopO (fun v12 =>
    bif (decide (v12 < (15 : Int))) then
     bindO (dialtonelaw13_step ((a1, (a2, a3)), ((5 : Int), ((0 : Int), (Go.IntKind.wrap .u8 v12))))) fun x14 =>
     bif (!x14) then
      outO (outO (some Bool.false))
     else
      some (Sum.inl (Go.IntKind.wrap .i64 (v12 + (1 : Int))))
    else
     outO (some (Sum.inl ()))) (0 : Int)) fun _ =>
  some Bool.true
noncomputable def cons9 : List (Nat × CE) := [(10, ⟨[], riB, (fun _ => some true)⟩), (16, ⟨[], [(.tmp 0 true [(.dat (.int .u8)), (.dat (.int .i64)), (.dat (.int .i64))]), (.tmp 1 false [(.dat (.list (.pair (.int .u8) (.pair (.int .i64) (.pair (.int .u8) (.int .i64))))))])], client_Start⟩), (17, ⟨[], [(.tmp 0 true [(.dat (.int .u8)), (.dat (.int .i64)), (.dat (.int .i64))]), (.tmp 1 false [(.dat (.list (.pair (.int .u8) (.pair (.int .i64) (.pair (.int .u8) (.int .i64))))))])], dialtoneref13_Start⟩), (14, ⟨[(.tmp 0 true [(.dat (.int .u8)), (.dat (.int .i64)), (.dat (.int .i64))])], [(.tmp 0 false [(.dat .bool)])], client_May⟩), (34, ⟨[(.tmp 0 true [(.dat (.int .u8)), (.dat (.int .i64)), (.dat (.int .i64))])], [(.tmp 0 false [(.dat .bool)])], dialtoneref13_Short⟩), (35, ⟨[(.tmp 0 false [(.dat (.int .i64))]), (.tmp 1 false [(.dat (.int .i64))]), (.tmp 2 false [(.dat (.int .i64))])], [(.tmp 0 false [(.dat .bool)])], dialtoneref12_From⟩), (28, ⟨[(.tmp 0 true [(.dat (.int .u8)), (.dat (.int .i64)), (.dat (.int .i64))])], [(.tmp 0 false [(.dat .bool)])], dialtoneref13_May⟩), (24, ⟨[(.tmp 0 true [(.dat (.int .u8)), (.dat (.int .i64)), (.dat (.int .i64))]), (.tmp 1 true [(.dat (.int .u8)), (.dat (.int .i64)), (.dat (.int .u8))])], [(.tmp 0 true [(.dat (.int .u8)), (.dat (.int .i64)), (.dat (.int .i64))]), (.tmp 1 false [(.dat (.list (.pair (.int .u8) (.pair (.int .i64) (.pair (.int .u8) (.int .i64))))))])], client_Step⟩), (20, ⟨[(.tmp 0 false [(.dat (.int .i64))])], [(.tmp 0 false [(.dat (.int .i64))])], client_Copies⟩), (33, ⟨[(.tmp 0 true [(.dat (.int .u8)), (.dat (.int .i64)), (.dat (.int .i64))]), (.tmp 1 true [(.dat (.int .u8)), (.dat (.int .i64)), (.dat (.int .u8))])], [(.tmp 0 true [(.dat (.int .u8)), (.dat (.int .i64)), (.dat (.int .i64))]), (.tmp 1 false [(.dat (.list (.pair (.int .u8) (.pair (.int .i64) (.pair (.int .u8) (.int .i64))))))])], dialtoneref13_open⟩), (27, ⟨[(.tmp 0 true [(.dat (.int .u8)), (.dat (.int .i64)), (.dat (.int .i64))]), (.tmp 1 true [(.dat (.int .u8)), (.dat (.int .i64)), (.dat (.int .u8))])], [(.tmp 0 true [(.dat (.int .u8)), (.dat (.int .i64)), (.dat (.int .i64))]), (.tmp 1 false [(.dat (.list (.pair (.int .u8) (.pair (.int .i64) (.pair (.int .u8) (.int .i64))))))])], dialtoneref13_Step⟩), (21, ⟨[(.tmp 0 false [(.dat (.int .i64))])], [(.tmp 0 false [(.dat (.int .i64))])], dialtoneref13_Copies⟩), (18, ⟨[(.tmp 0 false [(.dat (.list (.pair (.int .u8) (.pair (.int .i64) (.pair (.int .u8) (.int .i64))))))]), (.tmp 1 false [(.dat (.list (.pair (.int .u8) (.pair (.int .i64) (.pair (.int .u8) (.int .i64))))))])], [(.tmp 0 false [(.dat .bool)])], dialtoneref12_Same⟩), (19, ⟨[(.tmp 0 true [(.dat (.int .u8)), (.dat (.int .i64)), (.dat (.int .i64))]), (.tmp 1 true [(.dat (.int .u8)), (.dat (.int .i64)), (.dat (.int .u8))])], [(.tmp 0 false [(.dat .bool)])], dialtonelaw13_step⟩)]
theorem cons9_ok : ConL Try.prog cons9 := ⟨con_true (by kernel_rfl) lives_o, con16, con17, con14, con34, con35, con28, con24, con20, con33, con27, con21, con18, con19, trivial⟩
theorem con9 : ConOk Try.prog 9 ⟨[(.tmp 0 true [(.dat (.int .u8)), (.dat (.int .i64)), (.dat (.int .i64))]), (.tmp 1 false [(.dat (.list (.int .i64)))])], [(.tmp 0 false [(.dat .bool)])], dialtonelaw13_inputs⟩ :=
  tree_ok (plan := planOf plan9) (eg := egNo) KK tabL_ok (conOf_ok cons9_ok) Try.func9 (by kernel_rfl) (by kernel_rfl) 10000 (fun a r h => Eq.trans (show _ = dialtonelaw13_inputs a from by kernel_rfl) h)
/-! ### dialtone/dialtonelaw13.ClientSteps -/
def plan5 : List (Nat × PL) := []
noncomputable def dialtonelaw13_ClientSteps : ((Int × (Int × Int)) × ((Int × (Int × Int)) × Int)) → Option Bool := fun ((a1, (a2, a3)), ((a4, (a5, a6)), a7)) =>
  bindO (client_Start ()) fun ((x9, (x10, x11)), x12) =>
  bindO (dialtoneref13_Start ()) fun ((x14, (x15, x16)), x17) =>
  bif (!((decide (x9 = x14)) && ((decide (x10 = x15)) && (decide (x11 = x16))))) then
   some Bool.false
  else
   bindO (dialtoneref12_Same (x12, x17)) fun x18 =>
   bif (!x18) then
    some Bool.false
   else
    bindO (dialtonelaw13_step ((a1, (a2, a3)), (a4, (a5, a6)))) fun x19 =>
    bif (!x19) then
     some Bool.false
    else
     bindO (dialtonelaw13_step ((a1, (a2, a3)), ((Int.tmod a4 (8 : Int)), (a5, (Int.tmod a6 (15 : Int)))))) fun x22 =>
     bif x22 then
      bindO (client_Copies a7) fun x23 =>
      bindO (dialtoneref13_Copies a7) fun x24 =>
      bif (decide (x23 = x24)) then
       bindO (client_Copies (Int.tmod a7 (40000 : Int))) fun x26 =>
       bindO (dialtoneref13_Copies (Int.tmod a7 (40000 : Int))) fun x28 =>
       bif (decide (x26 = x28)) then
        some Bool.true
       else
        some Bool.false
      else
       some Bool.false
     else
      some Bool.false
noncomputable def cons5 : List (Nat × CE) := [(10, ⟨[], riB, (fun _ => some true)⟩), (16, ⟨[], [(.tmp 0 true [(.dat (.int .u8)), (.dat (.int .i64)), (.dat (.int .i64))]), (.tmp 1 false [(.dat (.list (.pair (.int .u8) (.pair (.int .i64) (.pair (.int .u8) (.int .i64))))))])], client_Start⟩), (17, ⟨[], [(.tmp 0 true [(.dat (.int .u8)), (.dat (.int .i64)), (.dat (.int .i64))]), (.tmp 1 false [(.dat (.list (.pair (.int .u8) (.pair (.int .i64) (.pair (.int .u8) (.int .i64))))))])], dialtoneref13_Start⟩), (14, ⟨[(.tmp 0 true [(.dat (.int .u8)), (.dat (.int .i64)), (.dat (.int .i64))])], [(.tmp 0 false [(.dat .bool)])], client_May⟩), (34, ⟨[(.tmp 0 true [(.dat (.int .u8)), (.dat (.int .i64)), (.dat (.int .i64))])], [(.tmp 0 false [(.dat .bool)])], dialtoneref13_Short⟩), (35, ⟨[(.tmp 0 false [(.dat (.int .i64))]), (.tmp 1 false [(.dat (.int .i64))]), (.tmp 2 false [(.dat (.int .i64))])], [(.tmp 0 false [(.dat .bool)])], dialtoneref12_From⟩), (28, ⟨[(.tmp 0 true [(.dat (.int .u8)), (.dat (.int .i64)), (.dat (.int .i64))])], [(.tmp 0 false [(.dat .bool)])], dialtoneref13_May⟩), (24, ⟨[(.tmp 0 true [(.dat (.int .u8)), (.dat (.int .i64)), (.dat (.int .i64))]), (.tmp 1 true [(.dat (.int .u8)), (.dat (.int .i64)), (.dat (.int .u8))])], [(.tmp 0 true [(.dat (.int .u8)), (.dat (.int .i64)), (.dat (.int .i64))]), (.tmp 1 false [(.dat (.list (.pair (.int .u8) (.pair (.int .i64) (.pair (.int .u8) (.int .i64))))))])], client_Step⟩), (20, ⟨[(.tmp 0 false [(.dat (.int .i64))])], [(.tmp 0 false [(.dat (.int .i64))])], client_Copies⟩), (33, ⟨[(.tmp 0 true [(.dat (.int .u8)), (.dat (.int .i64)), (.dat (.int .i64))]), (.tmp 1 true [(.dat (.int .u8)), (.dat (.int .i64)), (.dat (.int .u8))])], [(.tmp 0 true [(.dat (.int .u8)), (.dat (.int .i64)), (.dat (.int .i64))]), (.tmp 1 false [(.dat (.list (.pair (.int .u8) (.pair (.int .i64) (.pair (.int .u8) (.int .i64))))))])], dialtoneref13_open⟩), (27, ⟨[(.tmp 0 true [(.dat (.int .u8)), (.dat (.int .i64)), (.dat (.int .i64))]), (.tmp 1 true [(.dat (.int .u8)), (.dat (.int .i64)), (.dat (.int .u8))])], [(.tmp 0 true [(.dat (.int .u8)), (.dat (.int .i64)), (.dat (.int .i64))]), (.tmp 1 false [(.dat (.list (.pair (.int .u8) (.pair (.int .i64) (.pair (.int .u8) (.int .i64))))))])], dialtoneref13_Step⟩), (21, ⟨[(.tmp 0 false [(.dat (.int .i64))])], [(.tmp 0 false [(.dat (.int .i64))])], dialtoneref13_Copies⟩), (18, ⟨[(.tmp 0 false [(.dat (.list (.pair (.int .u8) (.pair (.int .i64) (.pair (.int .u8) (.int .i64))))))]), (.tmp 1 false [(.dat (.list (.pair (.int .u8) (.pair (.int .i64) (.pair (.int .u8) (.int .i64))))))])], [(.tmp 0 false [(.dat .bool)])], dialtoneref12_Same⟩), (19, ⟨[(.tmp 0 true [(.dat (.int .u8)), (.dat (.int .i64)), (.dat (.int .i64))]), (.tmp 1 true [(.dat (.int .u8)), (.dat (.int .i64)), (.dat (.int .u8))])], [(.tmp 0 false [(.dat .bool)])], dialtonelaw13_step⟩), (9, ⟨[(.tmp 0 true [(.dat (.int .u8)), (.dat (.int .i64)), (.dat (.int .i64))]), (.tmp 1 false [(.dat (.list (.int .i64)))])], [(.tmp 0 false [(.dat .bool)])], dialtonelaw13_inputs⟩)]
theorem cons5_ok : ConL Try.prog cons5 := ⟨con_true (by kernel_rfl) lives_o, con16, con17, con14, con34, con35, con28, con24, con20, con33, con27, con21, con18, con19, con9, trivial⟩
theorem con5 : ConOk Try.prog 5 ⟨[(.tmp 0 true [(.dat (.int .u8)), (.dat (.int .i64)), (.dat (.int .i64))]), (.tmp 1 true [(.dat (.int .u8)), (.dat (.int .i64)), (.dat (.int .u8))]), (.tmp 2 false [(.dat (.int .i64))])], [(.tmp 0 false [(.dat .bool)])], dialtonelaw13_ClientSteps⟩ :=
  tree_ok (plan := planOf plan5) (eg := egNo) KK tabL_ok (conOf_ok cons5_ok) Try.func5 (by kernel_rfl) (by kernel_rfl) 10000 (fun a r h => Eq.trans (show _ = dialtonelaw13_ClientSteps a from by kernel_rfl) h)
/-! ### dialtone/dialtonelaw13.ClientTable -/
def plan3 : List (Nat × PL) := [(68853957121, (.carry [])), (9241421688456087558, (.carry [.tmp 3 false [(.dat (.int .i64))]])), (2422583247098632616804865, (.carry [])), (166478653090017823607932654836779014, (.carry [.tmp 4 false [(.dat (.int .i64))]])), (43641380035629632351877897869532597846529, (.carry [])), (2999012800085385371517106168557929320908125131507718, (.carry [.tmp 5 false [(.dat (.int .i64))]]))]
noncomputable def dialtonelaw13_ClientTable : PUnit → Option Bool := fun _ =>
  joinO (loopO (fun v1 =>
    bif (decide (v1 < (9 : Int))) then
     joinO (loopO (fun v2 =>
       bif (decide (v2 < (10 : Int))) then
        joinO (loopO (fun v3 =>
          bif (decide (v3 < (16 : Int))) then
           bif (decide (((0 : Int) ≤ v2) ∧ (v2 < (10 : Int)))) then 
            bindO ((0 : Int) :: ((1 : Int) :: ((500 : Int) :: ((1000 : Int) :: ((2000 : Int) :: ((4000 : Int) :: ((8000 : Int) :: ((16000 : Int) :: ((32000 : Int) :: ((64000 : Int) :: ([] : List Int)))))))))))[(Int.toNat v2)]? fun x5 =>
            bif (decide (((0 : Int) ≤ v3) ∧ (v3 < (16 : Int)))) then 
             bindO ((-1 : Int) :: ((0 : Int) :: ((1 : Int) :: ((99 : Int) :: ((100 : Int) :: ((101 : Int) :: ((180 : Int) :: ((199 : Int) :: ((200 : Int) :: ((201 : Int) :: ((299 : Int) :: ((300 : Int) :: ((302 : Int) :: ((486 : Int) :: ((699 : Int) :: ((700 : Int) :: ([] : List Int)))))))))))))))))[(Int.toNat v3)]? fun x6 =>
             bindO (dialtonelaw13_inputs (((Go.IntKind.wrap .u8 v1), (x5, x6)), ((-1 : Int) :: ((0 : Int) :: ((1 : Int) :: ((99 : Int) :: ((100 : Int) :: ((101 : Int) :: ((180 : Int) :: ((199 : Int) :: ((200 : Int) :: ((201 : Int) :: ((299 : Int) :: ((300 : Int) :: ((302 : Int) :: ((486 : Int) :: ((699 : Int) :: ((700 : Int) :: ([] : List Int))))))))))))))))))) fun x7 =>
             bif (!x7) then
              outO (outO (outO (outO (outO (outO (some Bool.false))))))
             else
              some (Sum.inl (Go.IntKind.wrap .i64 (v3 + (1 : Int))))
            else none
           else none
          else
           outO (some (Sum.inl ()))) (0 : Int)) fun _ =>
        some (Sum.inl (Go.IntKind.wrap .i64 (v2 + (1 : Int))))
       else
        outO (some (Sum.inl ()))) (0 : Int)) fun _ =>
     some (Sum.inl (Go.IntKind.wrap .i64 (v1 + (1 : Int))))
    else
     outO (some (Sum.inl ()))) (0 : Int)) fun _ =>
  some Bool.true
noncomputable def cons3 : List (Nat × CE) := [(10, ⟨[], riB, (fun _ => some true)⟩), (16, ⟨[], [(.tmp 0 true [(.dat (.int .u8)), (.dat (.int .i64)), (.dat (.int .i64))]), (.tmp 1 false [(.dat (.list (.pair (.int .u8) (.pair (.int .i64) (.pair (.int .u8) (.int .i64))))))])], client_Start⟩), (17, ⟨[], [(.tmp 0 true [(.dat (.int .u8)), (.dat (.int .i64)), (.dat (.int .i64))]), (.tmp 1 false [(.dat (.list (.pair (.int .u8) (.pair (.int .i64) (.pair (.int .u8) (.int .i64))))))])], dialtoneref13_Start⟩), (14, ⟨[(.tmp 0 true [(.dat (.int .u8)), (.dat (.int .i64)), (.dat (.int .i64))])], [(.tmp 0 false [(.dat .bool)])], client_May⟩), (34, ⟨[(.tmp 0 true [(.dat (.int .u8)), (.dat (.int .i64)), (.dat (.int .i64))])], [(.tmp 0 false [(.dat .bool)])], dialtoneref13_Short⟩), (35, ⟨[(.tmp 0 false [(.dat (.int .i64))]), (.tmp 1 false [(.dat (.int .i64))]), (.tmp 2 false [(.dat (.int .i64))])], [(.tmp 0 false [(.dat .bool)])], dialtoneref12_From⟩), (28, ⟨[(.tmp 0 true [(.dat (.int .u8)), (.dat (.int .i64)), (.dat (.int .i64))])], [(.tmp 0 false [(.dat .bool)])], dialtoneref13_May⟩), (24, ⟨[(.tmp 0 true [(.dat (.int .u8)), (.dat (.int .i64)), (.dat (.int .i64))]), (.tmp 1 true [(.dat (.int .u8)), (.dat (.int .i64)), (.dat (.int .u8))])], [(.tmp 0 true [(.dat (.int .u8)), (.dat (.int .i64)), (.dat (.int .i64))]), (.tmp 1 false [(.dat (.list (.pair (.int .u8) (.pair (.int .i64) (.pair (.int .u8) (.int .i64))))))])], client_Step⟩), (20, ⟨[(.tmp 0 false [(.dat (.int .i64))])], [(.tmp 0 false [(.dat (.int .i64))])], client_Copies⟩), (33, ⟨[(.tmp 0 true [(.dat (.int .u8)), (.dat (.int .i64)), (.dat (.int .i64))]), (.tmp 1 true [(.dat (.int .u8)), (.dat (.int .i64)), (.dat (.int .u8))])], [(.tmp 0 true [(.dat (.int .u8)), (.dat (.int .i64)), (.dat (.int .i64))]), (.tmp 1 false [(.dat (.list (.pair (.int .u8) (.pair (.int .i64) (.pair (.int .u8) (.int .i64))))))])], dialtoneref13_open⟩), (27, ⟨[(.tmp 0 true [(.dat (.int .u8)), (.dat (.int .i64)), (.dat (.int .i64))]), (.tmp 1 true [(.dat (.int .u8)), (.dat (.int .i64)), (.dat (.int .u8))])], [(.tmp 0 true [(.dat (.int .u8)), (.dat (.int .i64)), (.dat (.int .i64))]), (.tmp 1 false [(.dat (.list (.pair (.int .u8) (.pair (.int .i64) (.pair (.int .u8) (.int .i64))))))])], dialtoneref13_Step⟩), (21, ⟨[(.tmp 0 false [(.dat (.int .i64))])], [(.tmp 0 false [(.dat (.int .i64))])], dialtoneref13_Copies⟩), (18, ⟨[(.tmp 0 false [(.dat (.list (.pair (.int .u8) (.pair (.int .i64) (.pair (.int .u8) (.int .i64))))))]), (.tmp 1 false [(.dat (.list (.pair (.int .u8) (.pair (.int .i64) (.pair (.int .u8) (.int .i64))))))])], [(.tmp 0 false [(.dat .bool)])], dialtoneref12_Same⟩), (19, ⟨[(.tmp 0 true [(.dat (.int .u8)), (.dat (.int .i64)), (.dat (.int .i64))]), (.tmp 1 true [(.dat (.int .u8)), (.dat (.int .i64)), (.dat (.int .u8))])], [(.tmp 0 false [(.dat .bool)])], dialtonelaw13_step⟩), (9, ⟨[(.tmp 0 true [(.dat (.int .u8)), (.dat (.int .i64)), (.dat (.int .i64))]), (.tmp 1 false [(.dat (.list (.int .i64)))])], [(.tmp 0 false [(.dat .bool)])], dialtonelaw13_inputs⟩), (5, ⟨[(.tmp 0 true [(.dat (.int .u8)), (.dat (.int .i64)), (.dat (.int .i64))]), (.tmp 1 true [(.dat (.int .u8)), (.dat (.int .i64)), (.dat (.int .u8))]), (.tmp 2 false [(.dat (.int .i64))])], [(.tmp 0 false [(.dat .bool)])], dialtonelaw13_ClientSteps⟩)]
theorem cons3_ok : ConL Try.prog cons3 := ⟨con_true (by kernel_rfl) lives_o, con16, con17, con14, con34, con35, con28, con24, con20, con33, con27, con21, con18, con19, con9, con5, trivial⟩
theorem con3 : ConOk Try.prog 3 ⟨[], [(.tmp 0 false [(.dat .bool)])], dialtonelaw13_ClientTable⟩ :=
  tree_ok (plan := planOf plan3) (eg := egNo) KK tabL_ok (conOf_ok cons3_ok) Try.func3 (by kernel_rfl) (by kernel_rfl) 10000 (fun a r h => Eq.trans (show _ = dialtonelaw13_ClientTable a from by kernel_rfl) h)
end Go.Proofs.Ytohhpcggahlpjaa
