/- Trees of functions, printed by the executor. -/
import Derived.Test.YtkmfgldoljegoaaF
import Derived.Test.YtkmfgldoljegoaaXB
import Derived.Test.YtkmfgldoljegoaaL
set_option linter.unusedVariables false
set_option maxRecDepth 1000000
set_option maxHeartbeats 0
namespace Go.Proofs.Ytkmfgldoljegoaa
open Go.RowKit
/-! ### dialtone/queues.within -/
def plan57 : List (Nat × PL) := []
noncomputable def queues_within : (Int × (Int × Int)) → Option Bool := fun (a1, (a2, a3)) =>
  bif (decide (a1 ≥ a2)) then
   some (decide (a1 ≤ a3))
  else
   some Bool.false
noncomputable def cons57 : List (Nat × CE) := [(14, ⟨[], riB, (fun _ => some true)⟩)]
theorem cons57_ok : ConL Try.prog cons57 := ⟨con_true (by kernel_rfl) works_o, trivial⟩
theorem con57 : ConOk Try.prog 57 ⟨[(.tmp 0 false [(.dat (.int .i64))]), (.tmp 1 false [(.dat (.int .i64))]), (.tmp 2 false [(.dat (.int .i64))])], [(.tmp 0 false [(.dat .bool)])], queues_within⟩ :=
  tree_ok (plan := planOf plan57) (eg := egNo) KK tabL_ok (conOf_ok cons57_ok) Try.func57 (by kernel_rfl) (by kernel_rfl) 10000 (fun a r h => Eq.trans (show _ = queues_within a from by kernel_rfl) h)
/-! ### dialtone/queues.MayLot -/
def plan30 : List (Nat × PL) := [(262657, (.carry [])), (68853957121, (.carry [.drop 3])), (9241421688456087558, (.carry [.tmp 29 false [(.dat (.int .i64))], .tmp 3 false [(.dat (.int .i64))]])), (1240362622514499899804090881, (.carry [.tmp 3 false [(.dat (.int .i64))], .tmp 4 false [(.dat (.int .i64))], .drop 5])), (166478653090017823607932723020169729, (.carry [])), (11440325928060094343250684344637685350921406470, (.carry [.tmp 65 false [(.dat (.int .i64))]]))]
noncomputable def queues_MayLot : (Int × (Int × (Int × (List (Int × (Int × Int)))))) → Option Bool := fun (a1, (a2, (a3, a4))) =>
  joinO (bindO (queues_within (a1, ((1 : Int), (2147483547 : Int)))) fun x5 =>
   bif (!x5) then
    outO (some Bool.false)
   else
    bindO (queues_within (a2, ((1 : Int), (100 : Int)))) fun x6 =>
    bif (!x6) then
     outO (some Bool.false)
    else
     bindO (queues_within (a3, ((1 : Int), (86400000 : Int)))) fun x7 =>
     bif (!x7) then
      outO (some Bool.false)
     else
      some (Sum.inl ())) fun _ =>
  joinO (loopO (fun (v8, v9) =>
    bif (decide (v8 < (((List.length a4) : Nat) : Int))) then
     joinO (bif (decide (((0 : Int) ≤ v8) ∧ (v8 < (((List.length a4) : Nat) : Int)))) then 
       bindO a4[(Int.toNat v8)]? fun x10 =>
       joinO (bindO (queues_within (x10.1, (v9, (Go.IntKind.wrap .i64 ((Go.IntKind.wrap .i64 (a1 + a2)) - (1 : Int)))))) fun x13 =>
        bif (!x13) then
         outO (outO (outO (outO (some Bool.false))))
        else
         bindO (queues_within (x10.2.1, ((1 : Int), (2147483647 : Int)))) fun x14 =>
         bif (!x14) then
          outO (outO (outO (outO (some Bool.false))))
         else
          bindO (queues_within (x10.2.2, ((0 : Int), (1099598027776 : Int)))) fun x15 =>
          bif (!x15) then
           outO (outO (outO (outO (some Bool.false))))
          else
           some (Sum.inl ())) fun _ =>
       bif (decide (((0 : Int) ≤ v8) ∧ (v8 ≤ (((List.length a4) : Nat) : Int)))) then 
        bindO (some (List.take (Int.toNat v8) a4)) fun x17 =>
        loopO (fun v18 =>
         bif (decide (v18 < (((List.length x17) : Nat) : Int))) then
          bif (decide (((0 : Int) ≤ v18) ∧ (v18 < (((List.length x17) : Nat) : Int)))) then 
           bindO x17[(Int.toNat v18)]? fun x19 =>
           bif (decide (x19.2.1 = x10.2.1)) then
            outO (outO (outO (outO (some Bool.false))))
           else
            some (Sum.inl (Go.IntKind.wrap .i64 (v18 + (1 : Int))))
          else none
         else
          outO (some (Sum.inl ((Go.IntKind.wrap .i64 (x10.1 + (1 : Int))), v8)))) (0 : Int)
       else none
      else none) fun (v21, v22) =>
     some (Sum.inl ((Go.IntKind.wrap .i64 (v8 + (1 : Int))), v21))
    else
     outO (some (Sum.inl ()))) ((0 : Int), a1)) fun _ =>
  some Bool.true
noncomputable def cons30 : List (Nat × CE) := [(14, ⟨[], riB, (fun _ => some true)⟩), (57, ⟨[(.tmp 0 false [(.dat (.int .i64))]), (.tmp 1 false [(.dat (.int .i64))]), (.tmp 2 false [(.dat (.int .i64))])], [(.tmp 0 false [(.dat .bool)])], queues_within⟩)]
theorem cons30_ok : ConL Try.prog cons30 := ⟨con_true (by kernel_rfl) works_o, con57, trivial⟩
theorem con30 : ConOk Try.prog 30 ⟨[(.tmp 0 true [(.dat (.int .i64)), (.dat (.int .i64)), (.dat (.int .i64)), (.dat (.list (.pair (.int .i64) (.pair (.int .i64) (.int .i64)))))])], [(.tmp 0 false [(.dat .bool)])], queues_MayLot⟩ :=
  tree_ok (plan := planOf plan30) (eg := egNo) KK tabL_ok (conOf_ok cons30_ok) Try.func30 (by kernel_rfl) (by kernel_rfl) 10000 (fun a r h => Eq.trans (show _ = queues_MayLot a from by kernel_rfl) h)
/-! ### dialtone/queues.NewLot -/
def plan27 : List (Nat × PL) := []
noncomputable def queues_NewLot : (Int × (Int × Int)) → Option ((Int × (Int × (Int × (List (Int × (Int × Int)))))) × Int) := fun (a1, (a2, a3)) =>
  bindO (queues_MayLot (a1, (a2, (a3, ([] : List (Int × (Int × Int))))))) fun x4 =>
  bif (!x4) then
   some (((0 : Int), ((0 : Int), ((0 : Int), ([] : List (Int × (Int × Int)))))), (2 : Int))
  else
   some ((a1, (a2, (a3, ([] : List (Int × (Int × Int)))))), (0 : Int))
noncomputable def cons27 : List (Nat × CE) := [(14, ⟨[], riB, (fun _ => some true)⟩), (57, ⟨[(.tmp 0 false [(.dat (.int .i64))]), (.tmp 1 false [(.dat (.int .i64))]), (.tmp 2 false [(.dat (.int .i64))])], [(.tmp 0 false [(.dat .bool)])], queues_within⟩), (30, ⟨[(.tmp 0 true [(.dat (.int .i64)), (.dat (.int .i64)), (.dat (.int .i64)), (.dat (.list (.pair (.int .i64) (.pair (.int .i64) (.int .i64)))))])], [(.tmp 0 false [(.dat .bool)])], queues_MayLot⟩)]
theorem cons27_ok : ConL Try.prog cons27 := ⟨con_true (by kernel_rfl) works_o, con57, con30, trivial⟩
theorem con27 : ConOk Try.prog 27 ⟨[(.tmp 0 false [(.dat (.int .i64))]), (.tmp 1 false [(.dat (.int .i64))]), (.tmp 2 false [(.dat (.int .i64))])], [(.tmp 0 true [(.dat (.int .i64)), (.dat (.int .i64)), (.dat (.int .i64)), (.dat (.list (.pair (.int .i64) (.pair (.int .i64) (.int .i64)))))]), (.tmp 1 false [(.dat (.int .u8))])], queues_NewLot⟩ :=
  tree_ok (plan := planOf plan27) (eg := egNo) KK tabL_ok (conOf_ok cons27_ok) Try.func27 (by kernel_rfl) (by kernel_rfl) 10000 (fun a r h => Eq.trans (show _ = queues_NewLot a from by kernel_rfl) h)
/-! ### dialtone/queues.Park -/
def plan32 : List (Nat × PL) := [(262657, (.carry [])), (134480385, (.carry [])), (18049651601311750, (.carry [.tmp 30 false [(.dat (.int .i64))]])), (18049651735527937, (.carry [.tmp 11 false [(.dat (.int .i64))]])), (4731607904558235256838, (.carry [.tmp 11 false [(.dat (.int .i64))]]))]
noncomputable def queues_Park : ((Int × (Int × (Int × (List (Int × (Int × Int)))))) × (Int × Int)) → Option ((Int × (Int × (Int × (List (Int × (Int × Int)))))) × (Int × Int)) := fun ((a1, (a2, (a3, a4))), (a5, a6)) =>
  joinO (bindO (queues_MayLot (a1, (a2, (a3, a4)))) fun x7 =>
   bif (!x7) then
    outO (some (((0 : Int), ((0 : Int), ((0 : Int), ([] : List (Int × (Int × Int)))))), ((0 : Int), (2 : Int))))
   else
    bindO (queues_within (a5, ((1 : Int), (2147483647 : Int)))) fun x8 =>
    bif (!x8) then
     outO (some (((0 : Int), ((0 : Int), ((0 : Int), ([] : List (Int × (Int × Int)))))), ((0 : Int), (2 : Int))))
    else
     bindO (queues_within (a6, ((0 : Int), (1099511627776 : Int)))) fun x9 =>
     bif (!x9) then
      outO (some (((0 : Int), ((0 : Int), ((0 : Int), ([] : List (Int × (Int × Int)))))), ((0 : Int), (2 : Int))))
     else
      some (Sum.inl ())) fun _ =>
  joinO (loopO (fun v10 =>
    bif (decide (v10 < (((List.length a4) : Nat) : Int))) then
     bif (decide (((0 : Int) ≤ v10) ∧ (v10 < (((List.length a4) : Nat) : Int)))) then 
      bindO a4[(Int.toNat v10)]? fun x11 =>
      bif (decide (x11.2.1 = a5)) then
       outO (outO (some (((0 : Int), ((0 : Int), ((0 : Int), ([] : List (Int × (Int × Int)))))), ((0 : Int), (7 : Int)))))
      else
       some (Sum.inl (Go.IntKind.wrap .i64 (v10 + (1 : Int))))
     else none
    else
     outO (some (Sum.inl ()))) (0 : Int)) fun _ =>
  bif (decide ((((List.length a4) : Nat) : Int) ≥ a2)) then
   some (((0 : Int), ((0 : Int), ((0 : Int), ([] : List (Int × (Int × Int)))))), ((0 : Int), (10 : Int)))
  else
   joinO (loopO (fun v13 =>
     bif (decide (v13 < (((List.length a4) : Nat) : Int))) then
      bif (decide (((0 : Int) ≤ v13) ∧ (v13 < (((List.length a4) : Nat) : Int)))) then 
       bindO a4[(Int.toNat v13)]? fun x14 =>
       bif (decide (x14.1 = (Go.IntKind.wrap .i64 (a1 + v13)))) then
        some (Sum.inl (Go.IntKind.wrap .i64 (v13 + (1 : Int))))
       else
        outO (some (Sum.inl v13))
      else none
     else
      outO (some (Sum.inl v13))) (0 : Int)) fun v17 =>
   bindO (some (Go.IntKind.wrap .i64 ((((List.length a4) : Nat) : Int) + (1 : Int)))) fun x18 =>
   bif (decide (((0 : Int) ≤ (0 : Int)) ∧ (((0 : Int) ≤ x18) ∧ (((x18 * (24 : Int)) ≤ (140737488355328 : Int)) ∧ (x18 ≤ (9223372036854775807 : Int)))))) then 
    bif (decide (((0 : Int) ≤ v17) ∧ (v17 ≤ (((List.length a4) : Nat) : Int)))) then 
     bindO (some (List.take (Int.toNat v17) a4)) fun x19 =>
     bif (decide (0 ≤ (List.length (List.replicate (Int.toNat x18) ((0 : Int), ((0 : Int), (0 : Int))))))) then 
      bif (decide (((List.length ((List.take 0 (List.replicate (Int.toNat x18) ((0 : Int), ((0 : Int), (0 : Int))))) ++ x19)) * 24) ≤ 140737488355328)) then 
       bindO (some ((List.take 0 (List.replicate (Int.toNat x18) ((0 : Int), ((0 : Int), (0 : Int))))) ++ x19)) fun x20 =>
       bindO (some (Go.IntKind.wrap .i64 (a1 + v17))) fun x21 =>
       bindO (some (Go.IntKind.wrap .i64 (a6 + a3))) fun x22 =>
       bif (decide ((List.length x20) ≤ (List.length x20))) then 
        bif (decide (((List.length ((List.take (List.length x20) x20) ++ ((x21, (a5, x22)) :: ([] : List (Int × (Int × Int)))))) * 24) ≤ 140737488355328)) then 
         bindO (some ((List.take (List.length x20) x20) ++ ((x21, (a5, x22)) :: ([] : List (Int × (Int × Int)))))) fun x23 =>
         bif (decide (((0 : Int) ≤ v17) ∧ (v17 ≤ (((List.length a4) : Nat) : Int)))) then 
          bindO (some (List.drop (Int.toNat v17) a4)) fun x24 =>
          bif (decide ((List.length x23) ≤ (List.length x23))) then 
           bif (decide (((List.length ((List.take (List.length x23) x23) ++ x24)) * 24) ≤ 140737488355328)) then 
            bindO (some ((List.take (List.length x23) x23) ++ x24)) fun x25 =>
            bif (decide (((0 : Int) ≤ v17) ∧ (v17 < (((List.length x25) : Nat) : Int)))) then 
             bindO x25[(Int.toNat v17)]? fun x26 =>
             bif (decide ((List.length x25) ≤ (List.length x25))) then 
              some ((a1, (a2, (a3, (List.take (List.length x25) x25)))), (x26.1, (0 : Int)))
             else none
            else none
           else none
          else none
         else none
        else none
       else none
      else none
     else none
    else none
   else none
noncomputable def cons32 : List (Nat × CE) := [(14, ⟨[], riB, (fun _ => some true)⟩), (57, ⟨[(.tmp 0 false [(.dat (.int .i64))]), (.tmp 1 false [(.dat (.int .i64))]), (.tmp 2 false [(.dat (.int .i64))])], [(.tmp 0 false [(.dat .bool)])], queues_within⟩), (30, ⟨[(.tmp 0 true [(.dat (.int .i64)), (.dat (.int .i64)), (.dat (.int .i64)), (.dat (.list (.pair (.int .i64) (.pair (.int .i64) (.int .i64)))))])], [(.tmp 0 false [(.dat .bool)])], queues_MayLot⟩), (27, ⟨[(.tmp 0 false [(.dat (.int .i64))]), (.tmp 1 false [(.dat (.int .i64))]), (.tmp 2 false [(.dat (.int .i64))])], [(.tmp 0 true [(.dat (.int .i64)), (.dat (.int .i64)), (.dat (.int .i64)), (.dat (.list (.pair (.int .i64) (.pair (.int .i64) (.int .i64)))))]), (.tmp 1 false [(.dat (.int .u8))])], queues_NewLot⟩)]
theorem cons32_ok : ConL Try.prog cons32 := ⟨con_true (by kernel_rfl) works_o, con57, con30, con27, trivial⟩
theorem con32 : ConOk Try.prog 32 ⟨[(.tmp 0 true [(.dat (.int .i64)), (.dat (.int .i64)), (.dat (.int .i64)), (.dat (.list (.pair (.int .i64) (.pair (.int .i64) (.int .i64)))))]), (.tmp 1 false [(.dat (.int .i64))]), (.tmp 2 false [(.dat (.int .i64))])], [(.tmp 0 true [(.dat (.int .i64)), (.dat (.int .i64)), (.dat (.int .i64)), (.dat (.list (.pair (.int .i64) (.pair (.int .i64) (.int .i64)))))]), (.tmp 1 false [(.dat (.int .i64))]), (.tmp 2 false [(.dat (.int .u8))])], queues_Park⟩ :=
  tree_ok (plan := planOf plan32) (eg := egNo) KK tabL_ok (conOf_ok cons32_ok) Try.func32 (by kernel_rfl) (by kernel_rfl) 10000 (fun a r h => Eq.trans (show _ = queues_Park a from by kernel_rfl) h)
/-! ### dialtone/queues.Fetch -/
def plan34 : List (Nat × PL) := [(134480385, (.carry [])), (18049651601311750, (.carry [.tmp 17 false [(.dat (.int .i64))]])), (43641379711748622625774587972117695299602, .unroll)]
noncomputable def queues_Fetch : ((Int × (Int × (Int × (List (Int × (Int × Int)))))) × Int) → Option ((Int × (Int × (Int × (List (Int × (Int × Int)))))) × (Int × Int)) := fun ((a1, (a2, (a3, a4))), a5) =>
  bindO (queues_MayLot (a1, (a2, (a3, a4)))) fun x6 =>
  bif (!x6) then
   some (((0 : Int), ((0 : Int), ((0 : Int), ([] : List (Int × (Int × Int)))))), ((0 : Int), (2 : Int)))
  else
   joinO (loopO (fun v7 =>
     bif (decide (v7 < (((List.length a4) : Nat) : Int))) then
      bif (decide (((0 : Int) ≤ v7) ∧ (v7 < (((List.length a4) : Nat) : Int)))) then 
       bindO a4[(Int.toNat v7)]? fun x8 =>
       bif (decide (x8.1 = a5)) then
        bif (decide ((((List.length a4) : Nat) : Int) = (0 : Int))) then
         bif (decide (((0 : Int) ≤ v7) ∧ (v7 ≤ (0 : Int)))) then 
          bindO (some (Go.IntKind.wrap .i64 (v7 + (1 : Int)))) fun x9 =>
          bif (decide (((0 : Int) ≤ x9) ∧ (x9 ≤ (0 : Int)))) then 
           outO (outO (some ((a1, (a2, (a3, ([] : List (Int × (Int × Int)))))), (x8.2.1, (0 : Int)))))
          else none
         else none
        else
         bif (decide (((0 : Int) ≤ (((List.length a4) : Nat) : Int)) ∧ (((((List.length a4) : Nat) : Int) ≤ (((List.length a4) : Nat) : Int)) ∧ ((((((List.length a4) : Nat) : Int) * (24 : Int)) ≤ (140737488355328 : Int)) ∧ ((((List.length a4) : Nat) : Int) ≤ (9223372036854775807 : Int)))))) then 
          bif (decide ((Int.toNat (((List.length a4) : Nat) : Int)) ≤ (List.length (List.replicate (Int.toNat (((List.length a4) : Nat) : Int)) ((0 : Int), ((0 : Int), (0 : Int))))))) then 
           bif (decide (((0 : Int) ≤ v7) ∧ (v7 ≤ (((Int.toNat (((List.length a4) : Nat) : Int)) : Nat) : Int)))) then 
            bindO (some (Go.IntKind.wrap .i64 (v7 + (1 : Int)))) fun x11 =>
            bif (decide (((0 : Int) ≤ x11) ∧ (x11 ≤ (((Int.toNat (((List.length a4) : Nat) : Int)) : Nat) : Int)))) then 
             bif ((decide (((Int.toNat x11) + ((Int.toNat (((List.length a4) : Nat) : Int)) - (Int.toNat x11))) ≤ (List.length (layL (List.replicate (Int.toNat (((List.length a4) : Nat) : Int)) ((0 : Int), ((0 : Int), (0 : Int)))) 0 (List.take (Int.toNat (((List.length a4) : Nat) : Int)) a4))))) && (decide (((Int.toNat v7) < (Int.toNat (((List.length a4) : Nat) : Int))) ∧ ((((Int.toNat v7) + (List.length (List.take ((Int.toNat (((List.length a4) : Nat) : Int)) - (Int.toNat x11)) (List.drop (Int.toNat x11) (layL (List.replicate (Int.toNat (((List.length a4) : Nat) : Int)) ((0 : Int), ((0 : Int), (0 : Int)))) 0 (List.take (Int.toNat (((List.length a4) : Nat) : Int)) a4)))))) ≤ (Int.toNat (((List.length a4) : Nat) : Int))) ∧ (((Int.toNat v7) + (List.length (List.take ((Int.toNat (((List.length a4) : Nat) : Int)) - (Int.toNat x11)) (List.drop (Int.toNat x11) (layL (List.replicate (Int.toNat (((List.length a4) : Nat) : Int)) ((0 : Int), ((0 : Int), (0 : Int)))) 0 (List.take (Int.toNat (((List.length a4) : Nat) : Int)) a4)))))) ≤ (List.length (layL (List.replicate (Int.toNat (((List.length a4) : Nat) : Int)) ((0 : Int), ((0 : Int), (0 : Int)))) 0 (List.take (Int.toNat (((List.length a4) : Nat) : Int)) a4)))))))) then 
              bindO (some ((List.take (Int.toNat v7) (layL (List.replicate (Int.toNat (((List.length a4) : Nat) : Int)) ((0 : Int), ((0 : Int), (0 : Int)))) 0 (List.take (Int.toNat (((List.length a4) : Nat) : Int)) a4))) ++ ((List.take ((Int.toNat (((List.length a4) : Nat) : Int)) - (Int.toNat x11)) (List.drop (Int.toNat x11) (layL (List.replicate (Int.toNat (((List.length a4) : Nat) : Int)) ((0 : Int), ((0 : Int), (0 : Int)))) 0 (List.take (Int.toNat (((List.length a4) : Nat) : Int)) a4)))) ++ (List.drop ((Int.toNat v7) + (List.length (List.take ((Int.toNat (((List.length a4) : Nat) : Int)) - (Int.toNat x11)) (List.drop (Int.toNat x11) (layL (List.replicate (Int.toNat (((List.length a4) : Nat) : Int)) ((0 : Int), ((0 : Int), (0 : Int)))) 0 (List.take (Int.toNat (((List.length a4) : Nat) : Int)) a4)))))) (layL (List.replicate (Int.toNat (((List.length a4) : Nat) : Int)) ((0 : Int), ((0 : Int), (0 : Int)))) 0 (List.take (Int.toNat (((List.length a4) : Nat) : Int)) a4)))))) fun x12 =>
              outO (outO (bif (decide (((Int.toNat v7) + (List.length (List.take ((Int.toNat (((List.length a4) : Nat) : Int)) - (Int.toNat x11)) (List.drop (Int.toNat x11) (layL (List.replicate (Int.toNat (((List.length a4) : Nat) : Int)) ((0 : Int), ((0 : Int), (0 : Int)))) 0 (List.take (Int.toNat (((List.length a4) : Nat) : Int)) a4)))))) ≤ (List.length x12))) then 
               some ((a1, (a2, (a3, (List.take ((Int.toNat v7) + (List.length (List.take ((Int.toNat (((List.length a4) : Nat) : Int)) - (Int.toNat x11)) (List.drop (Int.toNat x11) (layL (List.replicate (Int.toNat (((List.length a4) : Nat) : Int)) ((0 : Int), ((0 : Int), (0 : Int)))) 0 (List.take (Int.toNat (((List.length a4) : Nat) : Int)) a4)))))) x12)))), (x8.2.1, (0 : Int)))
              else none))
             else none
            else none
           else none
          else none
         else none
       else
        some (Sum.inl (Go.IntKind.wrap .i64 (v7 + (1 : Int))))
      else none
     else
      outO (some (Sum.inl ()))) (0 : Int)) fun _ =>
   some (((0 : Int), ((0 : Int), ((0 : Int), ([] : List (Int × (Int × Int)))))), ((0 : Int), (8 : Int)))
noncomputable def cons34 : List (Nat × CE) := [(14, ⟨[], riB, (fun _ => some true)⟩), (57, ⟨[(.tmp 0 false [(.dat (.int .i64))]), (.tmp 1 false [(.dat (.int .i64))]), (.tmp 2 false [(.dat (.int .i64))])], [(.tmp 0 false [(.dat .bool)])], queues_within⟩), (30, ⟨[(.tmp 0 true [(.dat (.int .i64)), (.dat (.int .i64)), (.dat (.int .i64)), (.dat (.list (.pair (.int .i64) (.pair (.int .i64) (.int .i64)))))])], [(.tmp 0 false [(.dat .bool)])], queues_MayLot⟩), (27, ⟨[(.tmp 0 false [(.dat (.int .i64))]), (.tmp 1 false [(.dat (.int .i64))]), (.tmp 2 false [(.dat (.int .i64))])], [(.tmp 0 true [(.dat (.int .i64)), (.dat (.int .i64)), (.dat (.int .i64)), (.dat (.list (.pair (.int .i64) (.pair (.int .i64) (.int .i64)))))]), (.tmp 1 false [(.dat (.int .u8))])], queues_NewLot⟩), (32, ⟨[(.tmp 0 true [(.dat (.int .i64)), (.dat (.int .i64)), (.dat (.int .i64)), (.dat (.list (.pair (.int .i64) (.pair (.int .i64) (.int .i64)))))]), (.tmp 1 false [(.dat (.int .i64))]), (.tmp 2 false [(.dat (.int .i64))])], [(.tmp 0 true [(.dat (.int .i64)), (.dat (.int .i64)), (.dat (.int .i64)), (.dat (.list (.pair (.int .i64) (.pair (.int .i64) (.int .i64)))))]), (.tmp 1 false [(.dat (.int .i64))]), (.tmp 2 false [(.dat (.int .u8))])], queues_Park⟩)]
theorem cons34_ok : ConL Try.prog cons34 := ⟨con_true (by kernel_rfl) works_o, con57, con30, con27, con32, trivial⟩
theorem con34 : ConOk Try.prog 34 ⟨[(.tmp 0 true [(.dat (.int .i64)), (.dat (.int .i64)), (.dat (.int .i64)), (.dat (.list (.pair (.int .i64) (.pair (.int .i64) (.int .i64)))))]), (.tmp 1 false [(.dat (.int .i64))])], [(.tmp 0 true [(.dat (.int .i64)), (.dat (.int .i64)), (.dat (.int .i64)), (.dat (.list (.pair (.int .i64) (.pair (.int .i64) (.int .i64)))))]), (.tmp 1 false [(.dat (.int .i64))]), (.tmp 2 false [(.dat (.int .u8))])], queues_Fetch⟩ :=
  tree_ok (plan := planOf plan34) (eg := egNo) KK tabL_ok (conOf_ok cons34_ok) Try.func34 (by kernel_rfl) (by kernel_rfl) 10000 (fun a r h => Eq.trans (show _ = queues_Fetch a from by kernel_rfl) h)
/-! ### dialtone/queues.Expire -/
def plan36 : List (Nat × PL) := [(35253226045953, (.carry [.tmp 6 false [(.own 10000003 121 (.pair (.int .i64) (.pair (.int .i64) (.int .i64))))], .tmp 7 false [(.own 10000004 3 (.int .i64))]])), (4731607904558101301254, (.carry [.tmp 17 false [(.dat (.int .i64))], .tmp 6 false [(.own 10000002 121 (.pair (.int .i64) (.pair (.int .i64) (.int .i64))))], .tmp 7 false [(.own 10000001 3 (.int .i64))]]))]
noncomputable def queues_Expire : ((Int × (Int × (Int × (List (Int × (Int × Int)))))) × Int) → Option ((Int × (Int × (Int × (List (Int × (Int × Int)))))) × (List Int)) := fun ((a1, (a2, (a3, a4))), a5) =>
  bindO (queues_MayLot (a1, (a2, (a3, a4)))) fun x6 =>
  bif (!x6) then
   some (((0 : Int), ((0 : Int), ((0 : Int), ([] : List (Int × (Int × Int)))))), ([] : List Int))
  else
   joinO (loopO (fun (v7, (v8, v9)) =>
     bif (decide (v7 < (((List.length a4) : Nat) : Int))) then
      bif (decide (((0 : Int) ≤ v7) ∧ (v7 < (((List.length a4) : Nat) : Int)))) then 
       bindO a4[(Int.toNat v7)]? fun x10 =>
       bif (decide (x10.2.2 ≤ a5)) then
        bif (decide ((List.length v9) ≤ (List.length v9))) then 
         bif (decide (((List.length ((List.take (List.length v9) v9) ++ (x10.2.1 :: ([] : List Int)))) * 8) ≤ 140737488355328)) then 
          bindO (some ((List.take (List.length v9) v9) ++ (x10.2.1 :: ([] : List Int)))) fun x11 =>
          bif ((decide ((List.length v8) ≤ (List.length v8))) && (decide ((List.length x11) ≤ (List.length x11)))) then 
           some (Sum.inl ((Go.IntKind.wrap .i64 (v7 + (1 : Int))), ((List.take (List.length v8) v8), (List.take (List.length x11) x11))))
          else none
         else none
        else none
       else
        bif (decide ((List.length v8) ≤ (List.length v8))) then 
         bif (decide (((List.length ((List.take (List.length v8) v8) ++ ((x10.1, (x10.2.1, x10.2.2)) :: ([] : List (Int × (Int × Int)))))) * 24) ≤ 140737488355328)) then 
          bindO (some ((List.take (List.length v8) v8) ++ ((x10.1, (x10.2.1, x10.2.2)) :: ([] : List (Int × (Int × Int)))))) fun x13 =>
          bif ((decide ((List.length x13) ≤ (List.length x13))) && (decide ((List.length v9) ≤ (List.length v9)))) then 
           some (Sum.inl ((Go.IntKind.wrap .i64 (v7 + (1 : Int))), ((List.take (List.length x13) x13), (List.take (List.length v9) v9))))
          else none
         else none
        else none
      else none
     else
      outO (bif ((decide ((List.length v8) ≤ (List.length v8))) && (decide ((List.length v9) ≤ (List.length v9)))) then 
       some (Sum.inl ((List.take (List.length v8) v8), (List.take (List.length v9) v9)))
      else none)) ((0 : Int), (([] : List (Int × (Int × Int))), ([] : List Int)))) fun (v15, v16) =>
   bif ((decide ((List.length v15) ≤ (List.length v15))) && (decide ((List.length v16) ≤ (List.length v16)))) then 
    some ((a1, (a2, (a3, (List.take (List.length v15) v15)))), (List.take (List.length v16) v16))
   else none
noncomputable def cons36 : List (Nat × CE) := [(14, ⟨[], riB, (fun _ => some true)⟩), (57, ⟨[(.tmp 0 false [(.dat (.int .i64))]), (.tmp 1 false [(.dat (.int .i64))]), (.tmp 2 false [(.dat (.int .i64))])], [(.tmp 0 false [(.dat .bool)])], queues_within⟩), (30, ⟨[(.tmp 0 true [(.dat (.int .i64)), (.dat (.int .i64)), (.dat (.int .i64)), (.dat (.list (.pair (.int .i64) (.pair (.int .i64) (.int .i64)))))])], [(.tmp 0 false [(.dat .bool)])], queues_MayLot⟩), (27, ⟨[(.tmp 0 false [(.dat (.int .i64))]), (.tmp 1 false [(.dat (.int .i64))]), (.tmp 2 false [(.dat (.int .i64))])], [(.tmp 0 true [(.dat (.int .i64)), (.dat (.int .i64)), (.dat (.int .i64)), (.dat (.list (.pair (.int .i64) (.pair (.int .i64) (.int .i64)))))]), (.tmp 1 false [(.dat (.int .u8))])], queues_NewLot⟩), (32, ⟨[(.tmp 0 true [(.dat (.int .i64)), (.dat (.int .i64)), (.dat (.int .i64)), (.dat (.list (.pair (.int .i64) (.pair (.int .i64) (.int .i64)))))]), (.tmp 1 false [(.dat (.int .i64))]), (.tmp 2 false [(.dat (.int .i64))])], [(.tmp 0 true [(.dat (.int .i64)), (.dat (.int .i64)), (.dat (.int .i64)), (.dat (.list (.pair (.int .i64) (.pair (.int .i64) (.int .i64)))))]), (.tmp 1 false [(.dat (.int .i64))]), (.tmp 2 false [(.dat (.int .u8))])], queues_Park⟩), (34, ⟨[(.tmp 0 true [(.dat (.int .i64)), (.dat (.int .i64)), (.dat (.int .i64)), (.dat (.list (.pair (.int .i64) (.pair (.int .i64) (.int .i64)))))]), (.tmp 1 false [(.dat (.int .i64))])], [(.tmp 0 true [(.dat (.int .i64)), (.dat (.int .i64)), (.dat (.int .i64)), (.dat (.list (.pair (.int .i64) (.pair (.int .i64) (.int .i64)))))]), (.tmp 1 false [(.dat (.int .i64))]), (.tmp 2 false [(.dat (.int .u8))])], queues_Fetch⟩)]
theorem cons36_ok : ConL Try.prog cons36 := ⟨con_true (by kernel_rfl) works_o, con57, con30, con27, con32, con34, trivial⟩
theorem con36 : ConOk Try.prog 36 ⟨[(.tmp 0 true [(.dat (.int .i64)), (.dat (.int .i64)), (.dat (.int .i64)), (.dat (.list (.pair (.int .i64) (.pair (.int .i64) (.int .i64)))))]), (.tmp 1 false [(.dat (.int .i64))])], [(.tmp 0 true [(.dat (.int .i64)), (.dat (.int .i64)), (.dat (.int .i64)), (.dat (.list (.pair (.int .i64) (.pair (.int .i64) (.int .i64)))))]), (.tmp 1 false [(.dat (.list (.int .i64)))])], queues_Expire⟩ :=
  tree_ok (plan := planOf plan36) (eg := egNo) KK tabL_ok (conOf_ok cons36_ok) Try.func36 (by kernel_rfl) (by kernel_rfl) 10000 (fun a r h => Eq.trans (show _ = queues_Expire a from by kernel_rfl) h)
/-! ### dialtone/dialtoneref36.id -/
def plan87 : List (Nat × PL) := []
noncomputable def dialtoneref36_id : Int → Option Bool := fun a1 =>
  bif (decide (a1 ≥ (1 : Int))) then
   some (decide (a1 ≤ (2147483647 : Int)))
  else
   some Bool.false
noncomputable def cons87 : List (Nat × CE) := [(14, ⟨[], riB, (fun _ => some true)⟩), (57, ⟨[(.tmp 0 false [(.dat (.int .i64))]), (.tmp 1 false [(.dat (.int .i64))]), (.tmp 2 false [(.dat (.int .i64))])], [(.tmp 0 false [(.dat .bool)])], queues_within⟩), (30, ⟨[(.tmp 0 true [(.dat (.int .i64)), (.dat (.int .i64)), (.dat (.int .i64)), (.dat (.list (.pair (.int .i64) (.pair (.int .i64) (.int .i64)))))])], [(.tmp 0 false [(.dat .bool)])], queues_MayLot⟩), (27, ⟨[(.tmp 0 false [(.dat (.int .i64))]), (.tmp 1 false [(.dat (.int .i64))]), (.tmp 2 false [(.dat (.int .i64))])], [(.tmp 0 true [(.dat (.int .i64)), (.dat (.int .i64)), (.dat (.int .i64)), (.dat (.list (.pair (.int .i64) (.pair (.int .i64) (.int .i64)))))]), (.tmp 1 false [(.dat (.int .u8))])], queues_NewLot⟩), (32, ⟨[(.tmp 0 true [(.dat (.int .i64)), (.dat (.int .i64)), (.dat (.int .i64)), (.dat (.list (.pair (.int .i64) (.pair (.int .i64) (.int .i64)))))]), (.tmp 1 false [(.dat (.int .i64))]), (.tmp 2 false [(.dat (.int .i64))])], [(.tmp 0 true [(.dat (.int .i64)), (.dat (.int .i64)), (.dat (.int .i64)), (.dat (.list (.pair (.int .i64) (.pair (.int .i64) (.int .i64)))))]), (.tmp 1 false [(.dat (.int .i64))]), (.tmp 2 false [(.dat (.int .u8))])], queues_Park⟩), (34, ⟨[(.tmp 0 true [(.dat (.int .i64)), (.dat (.int .i64)), (.dat (.int .i64)), (.dat (.list (.pair (.int .i64) (.pair (.int .i64) (.int .i64)))))]), (.tmp 1 false [(.dat (.int .i64))])], [(.tmp 0 true [(.dat (.int .i64)), (.dat (.int .i64)), (.dat (.int .i64)), (.dat (.list (.pair (.int .i64) (.pair (.int .i64) (.int .i64)))))]), (.tmp 1 false [(.dat (.int .i64))]), (.tmp 2 false [(.dat (.int .u8))])], queues_Fetch⟩), (36, ⟨[(.tmp 0 true [(.dat (.int .i64)), (.dat (.int .i64)), (.dat (.int .i64)), (.dat (.list (.pair (.int .i64) (.pair (.int .i64) (.int .i64)))))]), (.tmp 1 false [(.dat (.int .i64))])], [(.tmp 0 true [(.dat (.int .i64)), (.dat (.int .i64)), (.dat (.int .i64)), (.dat (.list (.pair (.int .i64) (.pair (.int .i64) (.int .i64)))))]), (.tmp 1 false [(.dat (.list (.int .i64)))])], queues_Expire⟩)]
theorem cons87_ok : ConL Try.prog cons87 := ⟨con_true (by kernel_rfl) works_o, con57, con30, con27, con32, con34, con36, trivial⟩
theorem con87 : ConOk Try.prog 87 ⟨[(.tmp 0 false [(.dat (.int .i64))])], [(.tmp 0 false [(.dat .bool)])], dialtoneref36_id⟩ :=
  tree_ok (plan := planOf plan87) (eg := egNo) KK tabL_ok (conOf_ok cons87_ok) Try.func87 (by kernel_rfl) (by kernel_rfl) 10000 (fun a r h => Eq.trans (show _ = dialtoneref36_id a from by kernel_rfl) h)
/-! ### dialtone/dialtoneref36.MayLot -/
def plan31 : List (Nat × PL) := [(262657, (.carry [])), (134480385, (.carry [])), (18049651601311750, (.carry [.tmp 3 false [(.dat (.int .i64))]])), (4731607869374267392513, (.carry [.tmp 5 false [(.dat (.int .i64))], .drop 4])), (635065658014334951087445901825, (.carry [])), (85237069749509028565948118265862817798, (.carry [.tmp 5 false [(.dat (.int .i64))]]))]
noncomputable def dialtoneref36_MayLot : (Int × (Int × (Int × (List (Int × (Int × Int)))))) → Option Bool := fun (a1, (a2, (a3, a4))) =>
  joinO (bif (decide (a1 ≥ (1 : Int))) then
    bif (!(decide (a1 ≤ (2147483547 : Int)))) then
     outO (some Bool.false)
    else
     bif (decide (a2 ≥ (1 : Int))) then
      bif (!(decide (a2 ≤ (100 : Int)))) then
       outO (some Bool.false)
      else
       bif (decide (a3 ≥ (1 : Int))) then
        bif (!(decide (a3 ≤ (86400000 : Int)))) then
         outO (some Bool.false)
        else
         some (Sum.inl ())
       else
        outO (some Bool.false)
     else
      outO (some Bool.false)
   else
    outO (some Bool.false)) fun _ =>
  joinO (loopO (fun v5 =>
    bif (decide (v5 < (((List.length a4) : Nat) : Int))) then
     joinO (bif (decide (((0 : Int) ≤ v5) ∧ (v5 < (((List.length a4) : Nat) : Int)))) then 
       bindO a4[(Int.toNat v5)]? fun x6 =>
       joinO (bif (decide (x6.1 ≥ a1)) then
         bif (!(decide (x6.1 ≤ (Go.IntKind.wrap .i64 ((Go.IntKind.wrap .i64 (a1 + a2)) - (1 : Int)))))) then
          outO (outO (outO (outO (some Bool.false))))
         else
          bif (decide (v5 > (0 : Int))) then
           bindO (some (Go.IntKind.wrap .i64 (v5 - (1 : Int)))) fun x9 =>
           bif (decide (((0 : Int) ≤ x9) ∧ (x9 < (((List.length a4) : Nat) : Int)))) then 
            bindO a4[(Int.toNat x9)]? fun x10 =>
            bif (decide (x6.1 ≤ x10.1)) then
             outO (outO (outO (outO (some Bool.false))))
            else
             bindO (dialtoneref36_id x6.2.1) fun x11 =>
             bif (!x11) then
              outO (outO (outO (outO (some Bool.false))))
             else
              bif (decide (x6.2.2 ≥ (0 : Int))) then
               bif (!(decide (x6.2.2 ≤ (1099598027776 : Int)))) then
                outO (outO (outO (outO (some Bool.false))))
               else
                some (Sum.inl ())
              else
               outO (outO (outO (outO (some Bool.false))))
           else none
          else
           bindO (dialtoneref36_id x6.2.1) fun x12 =>
           bif (!x12) then
            outO (outO (outO (outO (some Bool.false))))
           else
            bif (decide (x6.2.2 ≥ (0 : Int))) then
             bif (!(decide (x6.2.2 ≤ (1099598027776 : Int)))) then
              outO (outO (outO (outO (some Bool.false))))
             else
              some (Sum.inl ())
            else
             outO (outO (outO (outO (some Bool.false))))
        else
         outO (outO (outO (outO (some Bool.false))))) fun _ =>
       loopO (fun v13 =>
        bif (decide (v13 < v5)) then
         bif (decide (((0 : Int) ≤ v13) ∧ (v13 < (((List.length a4) : Nat) : Int)))) then 
          bindO a4[(Int.toNat v13)]? fun x14 =>
          bif (decide (x14.2.1 = x6.2.1)) then
           outO (outO (outO (outO (some Bool.false))))
          else
           some (Sum.inl (Go.IntKind.wrap .i64 (v13 + (1 : Int))))
         else none
        else
         outO (some (Sum.inl v13))) (0 : Int)
      else none) fun v16 =>
     some (Sum.inl (Go.IntKind.wrap .i64 (v5 + (1 : Int))))
    else
     outO (some (Sum.inl ()))) (0 : Int)) fun _ =>
  some Bool.true
noncomputable def cons31 : List (Nat × CE) := [(14, ⟨[], riB, (fun _ => some true)⟩), (57, ⟨[(.tmp 0 false [(.dat (.int .i64))]), (.tmp 1 false [(.dat (.int .i64))]), (.tmp 2 false [(.dat (.int .i64))])], [(.tmp 0 false [(.dat .bool)])], queues_within⟩), (30, ⟨[(.tmp 0 true [(.dat (.int .i64)), (.dat (.int .i64)), (.dat (.int .i64)), (.dat (.list (.pair (.int .i64) (.pair (.int .i64) (.int .i64)))))])], [(.tmp 0 false [(.dat .bool)])], queues_MayLot⟩), (27, ⟨[(.tmp 0 false [(.dat (.int .i64))]), (.tmp 1 false [(.dat (.int .i64))]), (.tmp 2 false [(.dat (.int .i64))])], [(.tmp 0 true [(.dat (.int .i64)), (.dat (.int .i64)), (.dat (.int .i64)), (.dat (.list (.pair (.int .i64) (.pair (.int .i64) (.int .i64)))))]), (.tmp 1 false [(.dat (.int .u8))])], queues_NewLot⟩), (32, ⟨[(.tmp 0 true [(.dat (.int .i64)), (.dat (.int .i64)), (.dat (.int .i64)), (.dat (.list (.pair (.int .i64) (.pair (.int .i64) (.int .i64)))))]), (.tmp 1 false [(.dat (.int .i64))]), (.tmp 2 false [(.dat (.int .i64))])], [(.tmp 0 true [(.dat (.int .i64)), (.dat (.int .i64)), (.dat (.int .i64)), (.dat (.list (.pair (.int .i64) (.pair (.int .i64) (.int .i64)))))]), (.tmp 1 false [(.dat (.int .i64))]), (.tmp 2 false [(.dat (.int .u8))])], queues_Park⟩), (34, ⟨[(.tmp 0 true [(.dat (.int .i64)), (.dat (.int .i64)), (.dat (.int .i64)), (.dat (.list (.pair (.int .i64) (.pair (.int .i64) (.int .i64)))))]), (.tmp 1 false [(.dat (.int .i64))])], [(.tmp 0 true [(.dat (.int .i64)), (.dat (.int .i64)), (.dat (.int .i64)), (.dat (.list (.pair (.int .i64) (.pair (.int .i64) (.int .i64)))))]), (.tmp 1 false [(.dat (.int .i64))]), (.tmp 2 false [(.dat (.int .u8))])], queues_Fetch⟩), (36, ⟨[(.tmp 0 true [(.dat (.int .i64)), (.dat (.int .i64)), (.dat (.int .i64)), (.dat (.list (.pair (.int .i64) (.pair (.int .i64) (.int .i64)))))]), (.tmp 1 false [(.dat (.int .i64))])], [(.tmp 0 true [(.dat (.int .i64)), (.dat (.int .i64)), (.dat (.int .i64)), (.dat (.list (.pair (.int .i64) (.pair (.int .i64) (.int .i64)))))]), (.tmp 1 false [(.dat (.list (.int .i64)))])], queues_Expire⟩), (87, ⟨[(.tmp 0 false [(.dat (.int .i64))])], [(.tmp 0 false [(.dat .bool)])], dialtoneref36_id⟩)]
theorem cons31_ok : ConL Try.prog cons31 := ⟨con_true (by kernel_rfl) works_o, con57, con30, con27, con32, con34, con36, con87, trivial⟩
theorem con31 : ConOk Try.prog 31 ⟨[(.tmp 0 true [(.dat (.int .i64)), (.dat (.int .i64)), (.dat (.int .i64)), (.dat (.list (.pair (.int .i64) (.pair (.int .i64) (.int .i64)))))])], [(.tmp 0 false [(.dat .bool)])], dialtoneref36_MayLot⟩ :=
  tree_ok (plan := planOf plan31) (eg := egNo) KK tabL_ok (conOf_ok cons31_ok) Try.func31 (by kernel_rfl) (by kernel_rfl) 10000 (fun a r h => Eq.trans (show _ = dialtoneref36_MayLot a from by kernel_rfl) h)
/-! ### dialtone/dialtoneref36.NewLot -/
def plan28 : List (Nat × PL) := []
noncomputable def dialtoneref36_NewLot : (Int × (Int × Int)) → Option ((Int × (Int × (Int × (List (Int × (Int × Int)))))) × Int) := fun (a1, (a2, a3)) =>
  bindO (dialtoneref36_MayLot (a1, (a2, (a3, ([] : List (Int × (Int × Int))))))) fun x4 =>
  bif (!x4) then
   some (((0 : Int), ((0 : Int), ((0 : Int), ([] : List (Int × (Int × Int)))))), (2 : Int))
  else
   some ((a1, (a2, (a3, ([] : List (Int × (Int × Int)))))), (0 : Int))
noncomputable def cons28 : List (Nat × CE) := [(14, ⟨[], riB, (fun _ => some true)⟩), (57, ⟨[(.tmp 0 false [(.dat (.int .i64))]), (.tmp 1 false [(.dat (.int .i64))]), (.tmp 2 false [(.dat (.int .i64))])], [(.tmp 0 false [(.dat .bool)])], queues_within⟩), (30, ⟨[(.tmp 0 true [(.dat (.int .i64)), (.dat (.int .i64)), (.dat (.int .i64)), (.dat (.list (.pair (.int .i64) (.pair (.int .i64) (.int .i64)))))])], [(.tmp 0 false [(.dat .bool)])], queues_MayLot⟩), (27, ⟨[(.tmp 0 false [(.dat (.int .i64))]), (.tmp 1 false [(.dat (.int .i64))]), (.tmp 2 false [(.dat (.int .i64))])], [(.tmp 0 true [(.dat (.int .i64)), (.dat (.int .i64)), (.dat (.int .i64)), (.dat (.list (.pair (.int .i64) (.pair (.int .i64) (.int .i64)))))]), (.tmp 1 false [(.dat (.int .u8))])], queues_NewLot⟩), (32, ⟨[(.tmp 0 true [(.dat (.int .i64)), (.dat (.int .i64)), (.dat (.int .i64)), (.dat (.list (.pair (.int .i64) (.pair (.int .i64) (.int .i64)))))]), (.tmp 1 false [(.dat (.int .i64))]), (.tmp 2 false [(.dat (.int .i64))])], [(.tmp 0 true [(.dat (.int .i64)), (.dat (.int .i64)), (.dat (.int .i64)), (.dat (.list (.pair (.int .i64) (.pair (.int .i64) (.int .i64)))))]), (.tmp 1 false [(.dat (.int .i64))]), (.tmp 2 false [(.dat (.int .u8))])], queues_Park⟩), (34, ⟨[(.tmp 0 true [(.dat (.int .i64)), (.dat (.int .i64)), (.dat (.int .i64)), (.dat (.list (.pair (.int .i64) (.pair (.int .i64) (.int .i64)))))]), (.tmp 1 false [(.dat (.int .i64))])], [(.tmp 0 true [(.dat (.int .i64)), (.dat (.int .i64)), (.dat (.int .i64)), (.dat (.list (.pair (.int .i64) (.pair (.int .i64) (.int .i64)))))]), (.tmp 1 false [(.dat (.int .i64))]), (.tmp 2 false [(.dat (.int .u8))])], queues_Fetch⟩), (36, ⟨[(.tmp 0 true [(.dat (.int .i64)), (.dat (.int .i64)), (.dat (.int .i64)), (.dat (.list (.pair (.int .i64) (.pair (.int .i64) (.int .i64)))))]), (.tmp 1 false [(.dat (.int .i64))])], [(.tmp 0 true [(.dat (.int .i64)), (.dat (.int .i64)), (.dat (.int .i64)), (.dat (.list (.pair (.int .i64) (.pair (.int .i64) (.int .i64)))))]), (.tmp 1 false [(.dat (.list (.int .i64)))])], queues_Expire⟩), (87, ⟨[(.tmp 0 false [(.dat (.int .i64))])], [(.tmp 0 false [(.dat .bool)])], dialtoneref36_id⟩), (31, ⟨[(.tmp 0 true [(.dat (.int .i64)), (.dat (.int .i64)), (.dat (.int .i64)), (.dat (.list (.pair (.int .i64) (.pair (.int .i64) (.int .i64)))))])], [(.tmp 0 false [(.dat .bool)])], dialtoneref36_MayLot⟩)]
theorem cons28_ok : ConL Try.prog cons28 := ⟨con_true (by kernel_rfl) works_o, con57, con30, con27, con32, con34, con36, con87, con31, trivial⟩
theorem con28 : ConOk Try.prog 28 ⟨[(.tmp 0 false [(.dat (.int .i64))]), (.tmp 1 false [(.dat (.int .i64))]), (.tmp 2 false [(.dat (.int .i64))])], [(.tmp 0 true [(.dat (.int .i64)), (.dat (.int .i64)), (.dat (.int .i64)), (.dat (.list (.pair (.int .i64) (.pair (.int .i64) (.int .i64)))))]), (.tmp 1 false [(.dat (.int .u8))])], dialtoneref36_NewLot⟩ :=
  tree_ok (plan := planOf plan28) (eg := egNo) KK tabL_ok (conOf_ok cons28_ok) Try.func28 (by kernel_rfl) (by kernel_rfl) 10000 (fun a r h => Eq.trans (show _ = dialtoneref36_NewLot a from by kernel_rfl) h)
/-! ### dialtone/dialtoneref36.Park -/
def plan33 : List (Nat × PL) := [(262657, (.carry [])), (134480385, (.carry [])), (18049651601311750, (.carry [.tmp 9 false [(.dat (.int .i64))]])), (35253226045953, (.carry [.tmp 10 false [(.dat (.int .i64))]])), (9241421688590043142, (.carry [.tmp 10 false [(.dat (.int .i64))]]))]
noncomputable def dialtoneref36_Park : ((Int × (Int × (Int × (List (Int × (Int × Int)))))) × (Int × Int)) → Option ((Int × (Int × (Int × (List (Int × (Int × Int)))))) × (Int × Int)) := fun ((a1, (a2, (a3, a4))), (a5, a6)) =>
  joinO (bindO (dialtoneref36_MayLot (a1, (a2, (a3, a4)))) fun x7 =>
   bif (!x7) then
    outO (some (((0 : Int), ((0 : Int), ((0 : Int), ([] : List (Int × (Int × Int)))))), ((0 : Int), (2 : Int))))
   else
    bindO (dialtoneref36_id a5) fun x8 =>
    bif (!x8) then
     outO (some (((0 : Int), ((0 : Int), ((0 : Int), ([] : List (Int × (Int × Int)))))), ((0 : Int), (2 : Int))))
    else
     bif (decide (a6 ≥ (0 : Int))) then
      bif (!(decide (a6 ≤ (1099511627776 : Int)))) then
       outO (some (((0 : Int), ((0 : Int), ((0 : Int), ([] : List (Int × (Int × Int)))))), ((0 : Int), (2 : Int))))
      else
       some (Sum.inl ())
     else
      outO (some (((0 : Int), ((0 : Int), ((0 : Int), ([] : List (Int × (Int × Int)))))), ((0 : Int), (2 : Int))))) fun _ =>
  joinO (loopO (fun v9 =>
    bif (decide (v9 < (((List.length a4) : Nat) : Int))) then
     bif (decide (((0 : Int) ≤ v9) ∧ (v9 < (((List.length a4) : Nat) : Int)))) then 
      bindO a4[(Int.toNat v9)]? fun x10 =>
      bif (decide (x10.2.1 = a5)) then
       outO (outO (some (((0 : Int), ((0 : Int), ((0 : Int), ([] : List (Int × (Int × Int)))))), ((0 : Int), (7 : Int)))))
      else
       some (Sum.inl (Go.IntKind.wrap .i64 (v9 + (1 : Int))))
     else none
    else
     outO (some (Sum.inl ()))) (0 : Int)) fun _ =>
  joinO (loopO (fun v12 =>
    bif (decide (v12 < (((List.length a4) : Nat) : Int))) then
     bif (decide (((0 : Int) ≤ v12) ∧ (v12 < (((List.length a4) : Nat) : Int)))) then 
      bindO a4[(Int.toNat v12)]? fun x13 =>
      bif (decide (x13.1 = (Go.IntKind.wrap .i64 (a1 + v12)))) then
       some (Sum.inl (Go.IntKind.wrap .i64 (v12 + (1 : Int))))
      else
       outO (some (Sum.inl v12))
     else none
    else
     outO (some (Sum.inl v12))) (0 : Int)) fun v16 =>
  bif (decide (v16 ≥ a2)) then
   some (((0 : Int), ((0 : Int), ((0 : Int), ([] : List (Int × (Int × Int)))))), ((0 : Int), (10 : Int)))
  else
   bif (decide (((0 : Int) ≤ v16) ∧ (v16 ≤ (((List.length a4) : Nat) : Int)))) then 
    bindO (some (List.take (Int.toNat v16) a4)) fun x17 =>
    bif (decide (((List.length x17) * 24) ≤ 140737488355328)) then 
     bindO (some (Go.IntKind.wrap .i64 (a1 + v16))) fun x19 =>
     bindO (some (Go.IntKind.wrap .i64 (a6 + a3))) fun x20 =>
     bif (decide ((List.length x17) ≤ (List.length x17))) then 
      bif (decide (((List.length ((List.take (List.length x17) x17) ++ ((x19, (a5, x20)) :: ([] : List (Int × (Int × Int)))))) * 24) ≤ 140737488355328)) then 
       bindO (some ((List.take (List.length x17) x17) ++ ((x19, (a5, x20)) :: ([] : List (Int × (Int × Int)))))) fun x21 =>
       bif (decide (((0 : Int) ≤ v16) ∧ (v16 ≤ (((List.length a4) : Nat) : Int)))) then 
        bindO (some (List.drop (Int.toNat v16) a4)) fun x22 =>
        bif (decide ((List.length x21) ≤ (List.length x21))) then 
         bif (decide (((List.length ((List.take (List.length x21) x21) ++ x22)) * 24) ≤ 140737488355328)) then 
          bindO (some ((List.take (List.length x21) x21) ++ x22)) fun x23 =>
          bif (decide ((List.length x23) ≤ (List.length x23))) then 
           some ((a1, (a2, (a3, (List.take (List.length x23) x23)))), ((Go.IntKind.wrap .i64 (a1 + v16)), (0 : Int)))
          else none
         else none
        else none
       else none
      else none
     else none
    else none
   else none
noncomputable def cons33 : List (Nat × CE) := [(14, ⟨[], riB, (fun _ => some true)⟩), (57, ⟨[(.tmp 0 false [(.dat (.int .i64))]), (.tmp 1 false [(.dat (.int .i64))]), (.tmp 2 false [(.dat (.int .i64))])], [(.tmp 0 false [(.dat .bool)])], queues_within⟩), (30, ⟨[(.tmp 0 true [(.dat (.int .i64)), (.dat (.int .i64)), (.dat (.int .i64)), (.dat (.list (.pair (.int .i64) (.pair (.int .i64) (.int .i64)))))])], [(.tmp 0 false [(.dat .bool)])], queues_MayLot⟩), (27, ⟨[(.tmp 0 false [(.dat (.int .i64))]), (.tmp 1 false [(.dat (.int .i64))]), (.tmp 2 false [(.dat (.int .i64))])], [(.tmp 0 true [(.dat (.int .i64)), (.dat (.int .i64)), (.dat (.int .i64)), (.dat (.list (.pair (.int .i64) (.pair (.int .i64) (.int .i64)))))]), (.tmp 1 false [(.dat (.int .u8))])], queues_NewLot⟩), (32, ⟨[(.tmp 0 true [(.dat (.int .i64)), (.dat (.int .i64)), (.dat (.int .i64)), (.dat (.list (.pair (.int .i64) (.pair (.int .i64) (.int .i64)))))]), (.tmp 1 false [(.dat (.int .i64))]), (.tmp 2 false [(.dat (.int .i64))])], [(.tmp 0 true [(.dat (.int .i64)), (.dat (.int .i64)), (.dat (.int .i64)), (.dat (.list (.pair (.int .i64) (.pair (.int .i64) (.int .i64)))))]), (.tmp 1 false [(.dat (.int .i64))]), (.tmp 2 false [(.dat (.int .u8))])], queues_Park⟩), (34, ⟨[(.tmp 0 true [(.dat (.int .i64)), (.dat (.int .i64)), (.dat (.int .i64)), (.dat (.list (.pair (.int .i64) (.pair (.int .i64) (.int .i64)))))]), (.tmp 1 false [(.dat (.int .i64))])], [(.tmp 0 true [(.dat (.int .i64)), (.dat (.int .i64)), (.dat (.int .i64)), (.dat (.list (.pair (.int .i64) (.pair (.int .i64) (.int .i64)))))]), (.tmp 1 false [(.dat (.int .i64))]), (.tmp 2 false [(.dat (.int .u8))])], queues_Fetch⟩), (36, ⟨[(.tmp 0 true [(.dat (.int .i64)), (.dat (.int .i64)), (.dat (.int .i64)), (.dat (.list (.pair (.int .i64) (.pair (.int .i64) (.int .i64)))))]), (.tmp 1 false [(.dat (.int .i64))])], [(.tmp 0 true [(.dat (.int .i64)), (.dat (.int .i64)), (.dat (.int .i64)), (.dat (.list (.pair (.int .i64) (.pair (.int .i64) (.int .i64)))))]), (.tmp 1 false [(.dat (.list (.int .i64)))])], queues_Expire⟩), (87, ⟨[(.tmp 0 false [(.dat (.int .i64))])], [(.tmp 0 false [(.dat .bool)])], dialtoneref36_id⟩), (31, ⟨[(.tmp 0 true [(.dat (.int .i64)), (.dat (.int .i64)), (.dat (.int .i64)), (.dat (.list (.pair (.int .i64) (.pair (.int .i64) (.int .i64)))))])], [(.tmp 0 false [(.dat .bool)])], dialtoneref36_MayLot⟩), (28, ⟨[(.tmp 0 false [(.dat (.int .i64))]), (.tmp 1 false [(.dat (.int .i64))]), (.tmp 2 false [(.dat (.int .i64))])], [(.tmp 0 true [(.dat (.int .i64)), (.dat (.int .i64)), (.dat (.int .i64)), (.dat (.list (.pair (.int .i64) (.pair (.int .i64) (.int .i64)))))]), (.tmp 1 false [(.dat (.int .u8))])], dialtoneref36_NewLot⟩)]
theorem cons33_ok : ConL Try.prog cons33 := ⟨con_true (by kernel_rfl) works_o, con57, con30, con27, con32, con34, con36, con87, con31, con28, trivial⟩
theorem con33 : ConOk Try.prog 33 ⟨[(.tmp 0 true [(.dat (.int .i64)), (.dat (.int .i64)), (.dat (.int .i64)), (.dat (.list (.pair (.int .i64) (.pair (.int .i64) (.int .i64)))))]), (.tmp 1 false [(.dat (.int .i64))]), (.tmp 2 false [(.dat (.int .i64))])], [(.tmp 0 true [(.dat (.int .i64)), (.dat (.int .i64)), (.dat (.int .i64)), (.dat (.list (.pair (.int .i64) (.pair (.int .i64) (.int .i64)))))]), (.tmp 1 false [(.dat (.int .i64))]), (.tmp 2 false [(.dat (.int .u8))])], dialtoneref36_Park⟩ :=
  tree_ok (plan := planOf plan33) (eg := egNo) KK tabL_ok (conOf_ok cons33_ok) Try.func33 (by kernel_rfl) (by kernel_rfl) 10000 (fun a r h => Eq.trans (show _ = dialtoneref36_Park a from by kernel_rfl) h)
/-! ### dialtone/dialtoneref36.Fetch -/
def plan35 : List (Nat × PL) := [(35253226045953, (.carry [.tmp 8 false [(.own 10000002 121 (.pair (.int .i64) (.pair (.int .i64) (.int .i64))))], .tmp 7 false [(.dat (.int .i64))]])), (4731607904558101301254, (.carry [.tmp 9 false [(.dat (.int .i64))], .tmp 8 false [(.own 10000001 121 (.pair (.int .i64) (.pair (.int .i64) (.int .i64))))], .tmp 7 false [(.dat (.int .i64))]]))]
noncomputable def dialtoneref36_Fetch : ((Int × (Int × (Int × (List (Int × (Int × Int)))))) × Int) → Option ((Int × (Int × (Int × (List (Int × (Int × Int)))))) × (Int × Int)) := fun ((a1, (a2, (a3, a4))), a5) =>
  bindO (dialtoneref36_MayLot (a1, (a2, (a3, a4)))) fun x6 =>
  bif (!x6) then
   some (((0 : Int), ((0 : Int), ((0 : Int), ([] : List (Int × (Int × Int)))))), ((0 : Int), (2 : Int)))
  else
   joinO (loopO (fun (v7, (v8, v9)) =>
     bif (decide (v7 < (((List.length a4) : Nat) : Int))) then
      bif (decide (((0 : Int) ≤ v7) ∧ (v7 < (((List.length a4) : Nat) : Int)))) then 
       bindO a4[(Int.toNat v7)]? fun x10 =>
       bif (decide (x10.1 = a5)) then
        bif (decide (((0 : Int) ≤ v7) ∧ (v7 < (((List.length a4) : Nat) : Int)))) then 
         bindO a4[(Int.toNat v7)]? fun x11 =>
         bif (decide ((List.length v8) ≤ (List.length v8))) then 
          some (Sum.inl ((Go.IntKind.wrap .i64 (v7 + (1 : Int))), ((List.take (List.length v8) v8), x11.2.1)))
         else none
        else none
       else
        bif (decide (((0 : Int) ≤ v7) ∧ (v7 < (((List.length a4) : Nat) : Int)))) then 
         bindO a4[(Int.toNat v7)]? fun x13 =>
         bif (decide ((List.length v8) ≤ (List.length v8))) then 
          bif (decide (((List.length ((List.take (List.length v8) v8) ++ ((x13.1, (x13.2.1, x13.2.2)) :: ([] : List (Int × (Int × Int)))))) * 24) ≤ 140737488355328)) then 
           bindO (some ((List.take (List.length v8) v8) ++ ((x13.1, (x13.2.1, x13.2.2)) :: ([] : List (Int × (Int × Int)))))) fun x14 =>
           bif (decide ((List.length x14) ≤ (List.length x14))) then 
            some (Sum.inl ((Go.IntKind.wrap .i64 (v7 + (1 : Int))), ((List.take (List.length x14) x14), v9)))
           else none
          else none
         else none
        else none
      else none
     else
      outO (bif (decide ((List.length v8) ≤ (List.length v8))) then 
       some (Sum.inl ((List.take (List.length v8) v8), v9))
      else none)) ((0 : Int), (([] : List (Int × (Int × Int))), (0 : Int)))) fun (v16, v17) =>
   bif (decide (v17 = (0 : Int))) then
    some (((0 : Int), ((0 : Int), ((0 : Int), ([] : List (Int × (Int × Int)))))), ((0 : Int), (8 : Int)))
   else
    bif (decide ((List.length v16) ≤ (List.length v16))) then 
     some ((a1, (a2, (a3, (List.take (List.length v16) v16)))), (v17, (0 : Int)))
    else none
noncomputable def cons35 : List (Nat × CE) := [(14, ⟨[], riB, (fun _ => some true)⟩), (57, ⟨[(.tmp 0 false [(.dat (.int .i64))]), (.tmp 1 false [(.dat (.int .i64))]), (.tmp 2 false [(.dat (.int .i64))])], [(.tmp 0 false [(.dat .bool)])], queues_within⟩), (30, ⟨[(.tmp 0 true [(.dat (.int .i64)), (.dat (.int .i64)), (.dat (.int .i64)), (.dat (.list (.pair (.int .i64) (.pair (.int .i64) (.int .i64)))))])], [(.tmp 0 false [(.dat .bool)])], queues_MayLot⟩), (27, ⟨[(.tmp 0 false [(.dat (.int .i64))]), (.tmp 1 false [(.dat (.int .i64))]), (.tmp 2 false [(.dat (.int .i64))])], [(.tmp 0 true [(.dat (.int .i64)), (.dat (.int .i64)), (.dat (.int .i64)), (.dat (.list (.pair (.int .i64) (.pair (.int .i64) (.int .i64)))))]), (.tmp 1 false [(.dat (.int .u8))])], queues_NewLot⟩), (32, ⟨[(.tmp 0 true [(.dat (.int .i64)), (.dat (.int .i64)), (.dat (.int .i64)), (.dat (.list (.pair (.int .i64) (.pair (.int .i64) (.int .i64)))))]), (.tmp 1 false [(.dat (.int .i64))]), (.tmp 2 false [(.dat (.int .i64))])], [(.tmp 0 true [(.dat (.int .i64)), (.dat (.int .i64)), (.dat (.int .i64)), (.dat (.list (.pair (.int .i64) (.pair (.int .i64) (.int .i64)))))]), (.tmp 1 false [(.dat (.int .i64))]), (.tmp 2 false [(.dat (.int .u8))])], queues_Park⟩), (34, ⟨[(.tmp 0 true [(.dat (.int .i64)), (.dat (.int .i64)), (.dat (.int .i64)), (.dat (.list (.pair (.int .i64) (.pair (.int .i64) (.int .i64)))))]), (.tmp 1 false [(.dat (.int .i64))])], [(.tmp 0 true [(.dat (.int .i64)), (.dat (.int .i64)), (.dat (.int .i64)), (.dat (.list (.pair (.int .i64) (.pair (.int .i64) (.int .i64)))))]), (.tmp 1 false [(.dat (.int .i64))]), (.tmp 2 false [(.dat (.int .u8))])], queues_Fetch⟩), (36, ⟨[(.tmp 0 true [(.dat (.int .i64)), (.dat (.int .i64)), (.dat (.int .i64)), (.dat (.list (.pair (.int .i64) (.pair (.int .i64) (.int .i64)))))]), (.tmp 1 false [(.dat (.int .i64))])], [(.tmp 0 true [(.dat (.int .i64)), (.dat (.int .i64)), (.dat (.int .i64)), (.dat (.list (.pair (.int .i64) (.pair (.int .i64) (.int .i64)))))]), (.tmp 1 false [(.dat (.list (.int .i64)))])], queues_Expire⟩), (87, ⟨[(.tmp 0 false [(.dat (.int .i64))])], [(.tmp 0 false [(.dat .bool)])], dialtoneref36_id⟩), (31, ⟨[(.tmp 0 true [(.dat (.int .i64)), (.dat (.int .i64)), (.dat (.int .i64)), (.dat (.list (.pair (.int .i64) (.pair (.int .i64) (.int .i64)))))])], [(.tmp 0 false [(.dat .bool)])], dialtoneref36_MayLot⟩), (28, ⟨[(.tmp 0 false [(.dat (.int .i64))]), (.tmp 1 false [(.dat (.int .i64))]), (.tmp 2 false [(.dat (.int .i64))])], [(.tmp 0 true [(.dat (.int .i64)), (.dat (.int .i64)), (.dat (.int .i64)), (.dat (.list (.pair (.int .i64) (.pair (.int .i64) (.int .i64)))))]), (.tmp 1 false [(.dat (.int .u8))])], dialtoneref36_NewLot⟩), (33, ⟨[(.tmp 0 true [(.dat (.int .i64)), (.dat (.int .i64)), (.dat (.int .i64)), (.dat (.list (.pair (.int .i64) (.pair (.int .i64) (.int .i64)))))]), (.tmp 1 false [(.dat (.int .i64))]), (.tmp 2 false [(.dat (.int .i64))])], [(.tmp 0 true [(.dat (.int .i64)), (.dat (.int .i64)), (.dat (.int .i64)), (.dat (.list (.pair (.int .i64) (.pair (.int .i64) (.int .i64)))))]), (.tmp 1 false [(.dat (.int .i64))]), (.tmp 2 false [(.dat (.int .u8))])], dialtoneref36_Park⟩)]
theorem cons35_ok : ConL Try.prog cons35 := ⟨con_true (by kernel_rfl) works_o, con57, con30, con27, con32, con34, con36, con87, con31, con28, con33, trivial⟩
theorem con35 : ConOk Try.prog 35 ⟨[(.tmp 0 true [(.dat (.int .i64)), (.dat (.int .i64)), (.dat (.int .i64)), (.dat (.list (.pair (.int .i64) (.pair (.int .i64) (.int .i64)))))]), (.tmp 1 false [(.dat (.int .i64))])], [(.tmp 0 true [(.dat (.int .i64)), (.dat (.int .i64)), (.dat (.int .i64)), (.dat (.list (.pair (.int .i64) (.pair (.int .i64) (.int .i64)))))]), (.tmp 1 false [(.dat (.int .i64))]), (.tmp 2 false [(.dat (.int .u8))])], dialtoneref36_Fetch⟩ :=
  tree_ok (plan := planOf plan35) (eg := egNo) KK tabL_ok (conOf_ok cons35_ok) Try.func35 (by kernel_rfl) (by kernel_rfl) 10000 (fun a r h => Eq.trans (show _ = dialtoneref36_Fetch a from by kernel_rfl) h)
/-! ### dialtone/dialtoneref36.Expire -/
def plan37 : List (Nat × PL) := [(35253226045953, (.carry [.tmp 6 false [(.own 10000003 121 (.pair (.int .i64) (.pair (.int .i64) (.int .i64))))], .tmp 7 false [(.own 10000004 3 (.int .i64))]])), (4731607904558101301254, (.carry [.tmp 8 false [(.dat (.int .i64))], .tmp 6 false [(.own 10000002 121 (.pair (.int .i64) (.pair (.int .i64) (.int .i64))))], .tmp 7 false [(.own 10000001 3 (.int .i64))]]))]
noncomputable def dialtoneref36_Expire : ((Int × (Int × (Int × (List (Int × (Int × Int)))))) × Int) → Option ((Int × (Int × (Int × (List (Int × (Int × Int)))))) × (List Int)) := fun ((a1, (a2, (a3, a4))), a5) =>
  bindO (dialtoneref36_MayLot (a1, (a2, (a3, a4)))) fun x6 =>
  bif (!x6) then
   some (((0 : Int), ((0 : Int), ((0 : Int), ([] : List (Int × (Int × Int)))))), ([] : List Int))
  else
   joinO (loopO (fun (v7, (v8, v9)) =>
     bif (decide (v7 < (((List.length a4) : Nat) : Int))) then
      bif (decide (((0 : Int) ≤ v7) ∧ (v7 < (((List.length a4) : Nat) : Int)))) then 
       bindO a4[(Int.toNat v7)]? fun x10 =>
       bif (decide (x10.2.2 ≤ a5)) then
        bif (decide (((0 : Int) ≤ v7) ∧ (v7 < (((List.length a4) : Nat) : Int)))) then 
         bindO a4[(Int.toNat v7)]? fun x11 =>
         bif (decide ((List.length v9) ≤ (List.length v9))) then 
          bif (decide (((List.length ((List.take (List.length v9) v9) ++ (x11.2.1 :: ([] : List Int)))) * 8) ≤ 140737488355328)) then 
           bindO (some ((List.take (List.length v9) v9) ++ (x11.2.1 :: ([] : List Int)))) fun x12 =>
           bif ((decide ((List.length v8) ≤ (List.length v8))) && (decide ((List.length x12) ≤ (List.length x12)))) then 
            some (Sum.inl ((Go.IntKind.wrap .i64 (v7 + (1 : Int))), ((List.take (List.length v8) v8), (List.take (List.length x12) x12))))
           else none
          else none
         else none
        else none
       else
        bif (decide (((0 : Int) ≤ v7) ∧ (v7 < (((List.length a4) : Nat) : Int)))) then 
         bindO a4[(Int.toNat v7)]? fun x14 =>
         bif (decide ((List.length v8) ≤ (List.length v8))) then 
          bif (decide (((List.length ((List.take (List.length v8) v8) ++ ((x14.1, (x14.2.1, x14.2.2)) :: ([] : List (Int × (Int × Int)))))) * 24) ≤ 140737488355328)) then 
           bindO (some ((List.take (List.length v8) v8) ++ ((x14.1, (x14.2.1, x14.2.2)) :: ([] : List (Int × (Int × Int)))))) fun x15 =>
           bif ((decide ((List.length x15) ≤ (List.length x15))) && (decide ((List.length v9) ≤ (List.length v9)))) then 
            some (Sum.inl ((Go.IntKind.wrap .i64 (v7 + (1 : Int))), ((List.take (List.length x15) x15), (List.take (List.length v9) v9))))
           else none
          else none
         else none
        else none
      else none
     else
      outO (bif ((decide ((List.length v8) ≤ (List.length v8))) && (decide ((List.length v9) ≤ (List.length v9)))) then 
       some (Sum.inl ((List.take (List.length v8) v8), (List.take (List.length v9) v9)))
      else none)) ((0 : Int), (([] : List (Int × (Int × Int))), ([] : List Int)))) fun (v17, v18) =>
   bif ((decide ((List.length v17) ≤ (List.length v17))) && (decide ((List.length v18) ≤ (List.length v18)))) then 
    some ((a1, (a2, (a3, (List.take (List.length v17) v17)))), (List.take (List.length v18) v18))
   else none
noncomputable def cons37 : List (Nat × CE) := [(14, ⟨[], riB, (fun _ => some true)⟩), (57, ⟨[(.tmp 0 false [(.dat (.int .i64))]), (.tmp 1 false [(.dat (.int .i64))]), (.tmp 2 false [(.dat (.int .i64))])], [(.tmp 0 false [(.dat .bool)])], queues_within⟩), (30, ⟨[(.tmp 0 true [(.dat (.int .i64)), (.dat (.int .i64)), (.dat (.int .i64)), (.dat (.list (.pair (.int .i64) (.pair (.int .i64) (.int .i64)))))])], [(.tmp 0 false [(.dat .bool)])], queues_MayLot⟩), (27, ⟨[(.tmp 0 false [(.dat (.int .i64))]), (.tmp 1 false [(.dat (.int .i64))]), (.tmp 2 false [(.dat (.int .i64))])], [(.tmp 0 true [(.dat (.int .i64)), (.dat (.int .i64)), (.dat (.int .i64)), (.dat (.list (.pair (.int .i64) (.pair (.int .i64) (.int .i64)))))]), (.tmp 1 false [(.dat (.int .u8))])], queues_NewLot⟩), (32, ⟨[(.tmp 0 true [(.dat (.int .i64)), (.dat (.int .i64)), (.dat (.int .i64)), (.dat (.list (.pair (.int .i64) (.pair (.int .i64) (.int .i64)))))]), (.tmp 1 false [(.dat (.int .i64))]), (.tmp 2 false [(.dat (.int .i64))])], [(.tmp 0 true [(.dat (.int .i64)), (.dat (.int .i64)), (.dat (.int .i64)), (.dat (.list (.pair (.int .i64) (.pair (.int .i64) (.int .i64)))))]), (.tmp 1 false [(.dat (.int .i64))]), (.tmp 2 false [(.dat (.int .u8))])], queues_Park⟩), (34, ⟨[(.tmp 0 true [(.dat (.int .i64)), (.dat (.int .i64)), (.dat (.int .i64)), (.dat (.list (.pair (.int .i64) (.pair (.int .i64) (.int .i64)))))]), (.tmp 1 false [(.dat (.int .i64))])], [(.tmp 0 true [(.dat (.int .i64)), (.dat (.int .i64)), (.dat (.int .i64)), (.dat (.list (.pair (.int .i64) (.pair (.int .i64) (.int .i64)))))]), (.tmp 1 false [(.dat (.int .i64))]), (.tmp 2 false [(.dat (.int .u8))])], queues_Fetch⟩), (36, ⟨[(.tmp 0 true [(.dat (.int .i64)), (.dat (.int .i64)), (.dat (.int .i64)), (.dat (.list (.pair (.int .i64) (.pair (.int .i64) (.int .i64)))))]), (.tmp 1 false [(.dat (.int .i64))])], [(.tmp 0 true [(.dat (.int .i64)), (.dat (.int .i64)), (.dat (.int .i64)), (.dat (.list (.pair (.int .i64) (.pair (.int .i64) (.int .i64)))))]), (.tmp 1 false [(.dat (.list (.int .i64)))])], queues_Expire⟩), (87, ⟨[(.tmp 0 false [(.dat (.int .i64))])], [(.tmp 0 false [(.dat .bool)])], dialtoneref36_id⟩), (31, ⟨[(.tmp 0 true [(.dat (.int .i64)), (.dat (.int .i64)), (.dat (.int .i64)), (.dat (.list (.pair (.int .i64) (.pair (.int .i64) (.int .i64)))))])], [(.tmp 0 false [(.dat .bool)])], dialtoneref36_MayLot⟩), (28, ⟨[(.tmp 0 false [(.dat (.int .i64))]), (.tmp 1 false [(.dat (.int .i64))]), (.tmp 2 false [(.dat (.int .i64))])], [(.tmp 0 true [(.dat (.int .i64)), (.dat (.int .i64)), (.dat (.int .i64)), (.dat (.list (.pair (.int .i64) (.pair (.int .i64) (.int .i64)))))]), (.tmp 1 false [(.dat (.int .u8))])], dialtoneref36_NewLot⟩), (33, ⟨[(.tmp 0 true [(.dat (.int .i64)), (.dat (.int .i64)), (.dat (.int .i64)), (.dat (.list (.pair (.int .i64) (.pair (.int .i64) (.int .i64)))))]), (.tmp 1 false [(.dat (.int .i64))]), (.tmp 2 false [(.dat (.int .i64))])], [(.tmp 0 true [(.dat (.int .i64)), (.dat (.int .i64)), (.dat (.int .i64)), (.dat (.list (.pair (.int .i64) (.pair (.int .i64) (.int .i64)))))]), (.tmp 1 false [(.dat (.int .i64))]), (.tmp 2 false [(.dat (.int .u8))])], dialtoneref36_Park⟩), (35, ⟨[(.tmp 0 true [(.dat (.int .i64)), (.dat (.int .i64)), (.dat (.int .i64)), (.dat (.list (.pair (.int .i64) (.pair (.int .i64) (.int .i64)))))]), (.tmp 1 false [(.dat (.int .i64))])], [(.tmp 0 true [(.dat (.int .i64)), (.dat (.int .i64)), (.dat (.int .i64)), (.dat (.list (.pair (.int .i64) (.pair (.int .i64) (.int .i64)))))]), (.tmp 1 false [(.dat (.int .i64))]), (.tmp 2 false [(.dat (.int .u8))])], dialtoneref36_Fetch⟩)]
theorem cons37_ok : ConL Try.prog cons37 := ⟨con_true (by kernel_rfl) works_o, con57, con30, con27, con32, con34, con36, con87, con31, con28, con33, con35, trivial⟩
theorem con37 : ConOk Try.prog 37 ⟨[(.tmp 0 true [(.dat (.int .i64)), (.dat (.int .i64)), (.dat (.int .i64)), (.dat (.list (.pair (.int .i64) (.pair (.int .i64) (.int .i64)))))]), (.tmp 1 false [(.dat (.int .i64))])], [(.tmp 0 true [(.dat (.int .i64)), (.dat (.int .i64)), (.dat (.int .i64)), (.dat (.list (.pair (.int .i64) (.pair (.int .i64) (.int .i64)))))]), (.tmp 1 false [(.dat (.list (.int .i64)))])], dialtoneref36_Expire⟩ :=
  tree_ok (plan := planOf plan37) (eg := egNo) KK tabL_ok (conOf_ok cons37_ok) Try.func37 (by kernel_rfl) (by kernel_rfl) 10000 (fun a r h => Eq.trans (show _ = dialtoneref36_Expire a from by kernel_rfl) h)
/-! ### dialtone/dialtoneref36.SameLot -/
def plan29 : List (Nat × PL) := [(262657, (.carry [])), (134480385, (.carry [])), (18049651601311750, (.carry [.tmp 5 false [(.dat (.int .i64))]]))]
noncomputable def dialtoneref36_SameLot : ((Int × (Int × (Int × (List (Int × (Int × Int)))))) × (Int × (Int × (Int × (List (Int × (Int × Int))))))) → Option Bool := fun ((a1, (a2, (a3, a4))), (a5, (a6, (a7, a8)))) =>
  joinO (bif (decide (a1 ≠ a5)) then
    outO (some Bool.false)
   else
    bif (decide (a2 ≠ a6)) then
     outO (some Bool.false)
    else
     bif (decide (a3 ≠ a7)) then
      outO (some Bool.false)
     else
      bif (decide ((((List.length a4) : Nat) : Int) ≠ (((List.length a8) : Nat) : Int))) then
       outO (some Bool.false)
      else
       some (Sum.inl ())) fun _ =>
  joinO (loopO (fun v9 =>
    bif (decide (v9 < (((List.length a4) : Nat) : Int))) then
     bif (decide (((0 : Int) ≤ v9) ∧ (v9 < (((List.length a4) : Nat) : Int)))) then 
      bindO a4[(Int.toNat v9)]? fun x10 =>
      bif (decide (((0 : Int) ≤ v9) ∧ (v9 < (((List.length a8) : Nat) : Int)))) then 
       bindO a8[(Int.toNat v9)]? fun x11 =>
       bif (!((decide (x10.1 = x11.1)) && ((decide (x10.2.1 = x11.2.1)) && (decide (x10.2.2 = x11.2.2))))) then
        outO (outO (some Bool.false))
       else
        some (Sum.inl (Go.IntKind.wrap .i64 (v9 + (1 : Int))))
      else none
     else none
    else
     outO (some (Sum.inl ()))) (0 : Int)) fun _ =>
  some Bool.true
noncomputable def cons29 : List (Nat × CE) := [(14, ⟨[], riB, (fun _ => some true)⟩), (57, ⟨[(.tmp 0 false [(.dat (.int .i64))]), (.tmp 1 false [(.dat (.int .i64))]), (.tmp 2 false [(.dat (.int .i64))])], [(.tmp 0 false [(.dat .bool)])], queues_within⟩), (30, ⟨[(.tmp 0 true [(.dat (.int .i64)), (.dat (.int .i64)), (.dat (.int .i64)), (.dat (.list (.pair (.int .i64) (.pair (.int .i64) (.int .i64)))))])], [(.tmp 0 false [(.dat .bool)])], queues_MayLot⟩), (27, ⟨[(.tmp 0 false [(.dat (.int .i64))]), (.tmp 1 false [(.dat (.int .i64))]), (.tmp 2 false [(.dat (.int .i64))])], [(.tmp 0 true [(.dat (.int .i64)), (.dat (.int .i64)), (.dat (.int .i64)), (.dat (.list (.pair (.int .i64) (.pair (.int .i64) (.int .i64)))))]), (.tmp 1 false [(.dat (.int .u8))])], queues_NewLot⟩), (32, ⟨[(.tmp 0 true [(.dat (.int .i64)), (.dat (.int .i64)), (.dat (.int .i64)), (.dat (.list (.pair (.int .i64) (.pair (.int .i64) (.int .i64)))))]), (.tmp 1 false [(.dat (.int .i64))]), (.tmp 2 false [(.dat (.int .i64))])], [(.tmp 0 true [(.dat (.int .i64)), (.dat (.int .i64)), (.dat (.int .i64)), (.dat (.list (.pair (.int .i64) (.pair (.int .i64) (.int .i64)))))]), (.tmp 1 false [(.dat (.int .i64))]), (.tmp 2 false [(.dat (.int .u8))])], queues_Park⟩), (34, ⟨[(.tmp 0 true [(.dat (.int .i64)), (.dat (.int .i64)), (.dat (.int .i64)), (.dat (.list (.pair (.int .i64) (.pair (.int .i64) (.int .i64)))))]), (.tmp 1 false [(.dat (.int .i64))])], [(.tmp 0 true [(.dat (.int .i64)), (.dat (.int .i64)), (.dat (.int .i64)), (.dat (.list (.pair (.int .i64) (.pair (.int .i64) (.int .i64)))))]), (.tmp 1 false [(.dat (.int .i64))]), (.tmp 2 false [(.dat (.int .u8))])], queues_Fetch⟩), (36, ⟨[(.tmp 0 true [(.dat (.int .i64)), (.dat (.int .i64)), (.dat (.int .i64)), (.dat (.list (.pair (.int .i64) (.pair (.int .i64) (.int .i64)))))]), (.tmp 1 false [(.dat (.int .i64))])], [(.tmp 0 true [(.dat (.int .i64)), (.dat (.int .i64)), (.dat (.int .i64)), (.dat (.list (.pair (.int .i64) (.pair (.int .i64) (.int .i64)))))]), (.tmp 1 false [(.dat (.list (.int .i64)))])], queues_Expire⟩), (87, ⟨[(.tmp 0 false [(.dat (.int .i64))])], [(.tmp 0 false [(.dat .bool)])], dialtoneref36_id⟩), (31, ⟨[(.tmp 0 true [(.dat (.int .i64)), (.dat (.int .i64)), (.dat (.int .i64)), (.dat (.list (.pair (.int .i64) (.pair (.int .i64) (.int .i64)))))])], [(.tmp 0 false [(.dat .bool)])], dialtoneref36_MayLot⟩), (28, ⟨[(.tmp 0 false [(.dat (.int .i64))]), (.tmp 1 false [(.dat (.int .i64))]), (.tmp 2 false [(.dat (.int .i64))])], [(.tmp 0 true [(.dat (.int .i64)), (.dat (.int .i64)), (.dat (.int .i64)), (.dat (.list (.pair (.int .i64) (.pair (.int .i64) (.int .i64)))))]), (.tmp 1 false [(.dat (.int .u8))])], dialtoneref36_NewLot⟩), (33, ⟨[(.tmp 0 true [(.dat (.int .i64)), (.dat (.int .i64)), (.dat (.int .i64)), (.dat (.list (.pair (.int .i64) (.pair (.int .i64) (.int .i64)))))]), (.tmp 1 false [(.dat (.int .i64))]), (.tmp 2 false [(.dat (.int .i64))])], [(.tmp 0 true [(.dat (.int .i64)), (.dat (.int .i64)), (.dat (.int .i64)), (.dat (.list (.pair (.int .i64) (.pair (.int .i64) (.int .i64)))))]), (.tmp 1 false [(.dat (.int .i64))]), (.tmp 2 false [(.dat (.int .u8))])], dialtoneref36_Park⟩), (35, ⟨[(.tmp 0 true [(.dat (.int .i64)), (.dat (.int .i64)), (.dat (.int .i64)), (.dat (.list (.pair (.int .i64) (.pair (.int .i64) (.int .i64)))))]), (.tmp 1 false [(.dat (.int .i64))])], [(.tmp 0 true [(.dat (.int .i64)), (.dat (.int .i64)), (.dat (.int .i64)), (.dat (.list (.pair (.int .i64) (.pair (.int .i64) (.int .i64)))))]), (.tmp 1 false [(.dat (.int .i64))]), (.tmp 2 false [(.dat (.int .u8))])], dialtoneref36_Fetch⟩), (37, ⟨[(.tmp 0 true [(.dat (.int .i64)), (.dat (.int .i64)), (.dat (.int .i64)), (.dat (.list (.pair (.int .i64) (.pair (.int .i64) (.int .i64)))))]), (.tmp 1 false [(.dat (.int .i64))])], [(.tmp 0 true [(.dat (.int .i64)), (.dat (.int .i64)), (.dat (.int .i64)), (.dat (.list (.pair (.int .i64) (.pair (.int .i64) (.int .i64)))))]), (.tmp 1 false [(.dat (.list (.int .i64)))])], dialtoneref36_Expire⟩)]
theorem cons29_ok : ConL Try.prog cons29 := ⟨con_true (by kernel_rfl) works_o, con57, con30, con27, con32, con34, con36, con87, con31, con28, con33, con35, con37, trivial⟩
theorem con29 : ConOk Try.prog 29 ⟨[(.tmp 0 true [(.dat (.int .i64)), (.dat (.int .i64)), (.dat (.int .i64)), (.dat (.list (.pair (.int .i64) (.pair (.int .i64) (.int .i64)))))]), (.tmp 1 true [(.dat (.int .i64)), (.dat (.int .i64)), (.dat (.int .i64)), (.dat (.list (.pair (.int .i64) (.pair (.int .i64) (.int .i64)))))])], [(.tmp 0 false [(.dat .bool)])], dialtoneref36_SameLot⟩ :=
  tree_ok (plan := planOf plan29) (eg := egNo) KK tabL_ok (conOf_ok cons29_ok) Try.func29 (by kernel_rfl) (by kernel_rfl) 10000 (fun a r h => Eq.trans (show _ = dialtoneref36_SameLot a from by kernel_rfl) h)
/-! ### dialtone/dialtonelaw36.lot -/
def plan26 : List (Nat × PL) := []
noncomputable def dialtonelaw36_lot : (Int × (Int × (Int × (List (Int × (Int × Int)))))) → Option (Int × (Int × (Int × (List (Int × (Int × Int)))))) := fun (a1, (a2, (a3, a4))) =>
  bif (decide (((0 : Int) ≤ (minA (((List.length a4) : Nat) : Int) (120 : Int))) ∧ ((minA (((List.length a4) : Nat) : Int) (120 : Int)) ≤ (((List.length a4) : Nat) : Int)))) then 
   bindO (some (List.take (Int.toNat (minA (((List.length a4) : Nat) : Int) (120 : Int))) a4)) fun x5 =>
   bif (decide (((List.length x5) * 24) ≤ 140737488355328)) then 
    bif (decide ((List.length x5) ≤ (List.length x5))) then 
     some (a1, (a2, (a3, (List.take (List.length x5) x5))))
    else none
   else none
  else none
noncomputable def cons26 : List (Nat × CE) := [(14, ⟨[], riB, (fun _ => some true)⟩), (57, ⟨[(.tmp 0 false [(.dat (.int .i64))]), (.tmp 1 false [(.dat (.int .i64))]), (.tmp 2 false [(.dat (.int .i64))])], [(.tmp 0 false [(.dat .bool)])], queues_within⟩), (30, ⟨[(.tmp 0 true [(.dat (.int .i64)), (.dat (.int .i64)), (.dat (.int .i64)), (.dat (.list (.pair (.int .i64) (.pair (.int .i64) (.int .i64)))))])], [(.tmp 0 false [(.dat .bool)])], queues_MayLot⟩), (27, ⟨[(.tmp 0 false [(.dat (.int .i64))]), (.tmp 1 false [(.dat (.int .i64))]), (.tmp 2 false [(.dat (.int .i64))])], [(.tmp 0 true [(.dat (.int .i64)), (.dat (.int .i64)), (.dat (.int .i64)), (.dat (.list (.pair (.int .i64) (.pair (.int .i64) (.int .i64)))))]), (.tmp 1 false [(.dat (.int .u8))])], queues_NewLot⟩), (32, ⟨[(.tmp 0 true [(.dat (.int .i64)), (.dat (.int .i64)), (.dat (.int .i64)), (.dat (.list (.pair (.int .i64) (.pair (.int .i64) (.int .i64)))))]), (.tmp 1 false [(.dat (.int .i64))]), (.tmp 2 false [(.dat (.int .i64))])], [(.tmp 0 true [(.dat (.int .i64)), (.dat (.int .i64)), (.dat (.int .i64)), (.dat (.list (.pair (.int .i64) (.pair (.int .i64) (.int .i64)))))]), (.tmp 1 false [(.dat (.int .i64))]), (.tmp 2 false [(.dat (.int .u8))])], queues_Park⟩), (34, ⟨[(.tmp 0 true [(.dat (.int .i64)), (.dat (.int .i64)), (.dat (.int .i64)), (.dat (.list (.pair (.int .i64) (.pair (.int .i64) (.int .i64)))))]), (.tmp 1 false [(.dat (.int .i64))])], [(.tmp 0 true [(.dat (.int .i64)), (.dat (.int .i64)), (.dat (.int .i64)), (.dat (.list (.pair (.int .i64) (.pair (.int .i64) (.int .i64)))))]), (.tmp 1 false [(.dat (.int .i64))]), (.tmp 2 false [(.dat (.int .u8))])], queues_Fetch⟩), (36, ⟨[(.tmp 0 true [(.dat (.int .i64)), (.dat (.int .i64)), (.dat (.int .i64)), (.dat (.list (.pair (.int .i64) (.pair (.int .i64) (.int .i64)))))]), (.tmp 1 false [(.dat (.int .i64))])], [(.tmp 0 true [(.dat (.int .i64)), (.dat (.int .i64)), (.dat (.int .i64)), (.dat (.list (.pair (.int .i64) (.pair (.int .i64) (.int .i64)))))]), (.tmp 1 false [(.dat (.list (.int .i64)))])], queues_Expire⟩), (87, ⟨[(.tmp 0 false [(.dat (.int .i64))])], [(.tmp 0 false [(.dat .bool)])], dialtoneref36_id⟩), (31, ⟨[(.tmp 0 true [(.dat (.int .i64)), (.dat (.int .i64)), (.dat (.int .i64)), (.dat (.list (.pair (.int .i64) (.pair (.int .i64) (.int .i64)))))])], [(.tmp 0 false [(.dat .bool)])], dialtoneref36_MayLot⟩), (28, ⟨[(.tmp 0 false [(.dat (.int .i64))]), (.tmp 1 false [(.dat (.int .i64))]), (.tmp 2 false [(.dat (.int .i64))])], [(.tmp 0 true [(.dat (.int .i64)), (.dat (.int .i64)), (.dat (.int .i64)), (.dat (.list (.pair (.int .i64) (.pair (.int .i64) (.int .i64)))))]), (.tmp 1 false [(.dat (.int .u8))])], dialtoneref36_NewLot⟩), (33, ⟨[(.tmp 0 true [(.dat (.int .i64)), (.dat (.int .i64)), (.dat (.int .i64)), (.dat (.list (.pair (.int .i64) (.pair (.int .i64) (.int .i64)))))]), (.tmp 1 false [(.dat (.int .i64))]), (.tmp 2 false [(.dat (.int .i64))])], [(.tmp 0 true [(.dat (.int .i64)), (.dat (.int .i64)), (.dat (.int .i64)), (.dat (.list (.pair (.int .i64) (.pair (.int .i64) (.int .i64)))))]), (.tmp 1 false [(.dat (.int .i64))]), (.tmp 2 false [(.dat (.int .u8))])], dialtoneref36_Park⟩), (35, ⟨[(.tmp 0 true [(.dat (.int .i64)), (.dat (.int .i64)), (.dat (.int .i64)), (.dat (.list (.pair (.int .i64) (.pair (.int .i64) (.int .i64)))))]), (.tmp 1 false [(.dat (.int .i64))])], [(.tmp 0 true [(.dat (.int .i64)), (.dat (.int .i64)), (.dat (.int .i64)), (.dat (.list (.pair (.int .i64) (.pair (.int .i64) (.int .i64)))))]), (.tmp 1 false [(.dat (.int .i64))]), (.tmp 2 false [(.dat (.int .u8))])], dialtoneref36_Fetch⟩), (37, ⟨[(.tmp 0 true [(.dat (.int .i64)), (.dat (.int .i64)), (.dat (.int .i64)), (.dat (.list (.pair (.int .i64) (.pair (.int .i64) (.int .i64)))))]), (.tmp 1 false [(.dat (.int .i64))])], [(.tmp 0 true [(.dat (.int .i64)), (.dat (.int .i64)), (.dat (.int .i64)), (.dat (.list (.pair (.int .i64) (.pair (.int .i64) (.int .i64)))))]), (.tmp 1 false [(.dat (.list (.int .i64)))])], dialtoneref36_Expire⟩), (29, ⟨[(.tmp 0 true [(.dat (.int .i64)), (.dat (.int .i64)), (.dat (.int .i64)), (.dat (.list (.pair (.int .i64) (.pair (.int .i64) (.int .i64)))))]), (.tmp 1 true [(.dat (.int .i64)), (.dat (.int .i64)), (.dat (.int .i64)), (.dat (.list (.pair (.int .i64) (.pair (.int .i64) (.int .i64)))))])], [(.tmp 0 false [(.dat .bool)])], dialtoneref36_SameLot⟩)]
theorem cons26_ok : ConL Try.prog cons26 := ⟨con_true (by kernel_rfl) works_o, con57, con30, con27, con32, con34, con36, con87, con31, con28, con33, con35, con37, con29, trivial⟩
theorem con26 : ConOk Try.prog 26 ⟨[(.tmp 0 true [(.dat (.int .i64)), (.dat (.int .i64)), (.dat (.int .i64)), (.dat (.list (.pair (.int .i64) (.pair (.int .i64) (.int .i64)))))])], [(.tmp 0 true [(.dat (.int .i64)), (.dat (.int .i64)), (.dat (.int .i64)), (.dat (.list (.pair (.int .i64) (.pair (.int .i64) (.int .i64)))))])], dialtonelaw36_lot⟩ :=
  tree_ok (plan := planOf plan26) (eg := egNo) KK tabL_ok (conOf_ok cons26_ok) Try.func26 (by kernel_rfl) (by kernel_rfl) 10000 (fun a r h => Eq.trans (show _ = dialtonelaw36_lot a from by kernel_rfl) h)
/-! ### dialtone/dialtonelaw36.QueuesParks -/
def plan7 : List (Nat × PL) := [(18049651735527937, (.carry [])), (2422583247133816584929793, (.carry [])), (325153619321163373997995856232961, (.carry [])), (43641380036263450374825280377002664395265, (.carry [])), (22344386578566886591910543553025364170375681, (.carry [])), (2999012800128941014399896334932111905320428676319238, (.carry [.tmp 16 false [(.dat (.int .i64))]]))]
noncomputable def dialtonelaw36_QueuesParks : ((Int × (Int × (Int × (List (Int × (Int × Int)))))) × (Int × Int)) → Option Bool := fun ((a1, (a2, (a3, a4))), (a5, a6)) =>
  bindO (dialtonelaw36_lot (a1, (a2, (a3, a4)))) fun (x8, (x9, (x10, x11))) =>
  bindO (dialtonelaw36_lot (x8, (x9, (x10, x11)))) fun (x13, (x14, (x15, x16))) =>
  bindO (queues_NewLot (x8, (x9, x10))) fun ((x18, (x19, (x20, x21))), x22) =>
  bindO (dialtoneref36_NewLot (x8, (x9, x10))) fun ((x24, (x25, (x26, x27))), x28) =>
  joinO (bif (decide (x22 ≠ x28)) then
    outO (some Bool.false)
   else
    bindO (dialtoneref36_SameLot ((x18, (x19, (x20, x21))), (x24, (x25, (x26, x27))))) fun x29 =>
    bif (!x29) then
     outO (some Bool.false)
    else
     bindO (queues_MayLot (x8, (x9, (x10, x11)))) fun x30 =>
     bindO (dialtoneref36_MayLot (x13, (x14, (x15, x16)))) fun x31 =>
     bif (x30 != x31) then
      outO (some Bool.false)
     else
      some (Sum.inl ())) fun _ =>
  bindO (queues_Park ((x8, (x9, (x10, x11))), (a5, a6))) fun ((x33, (x34, (x35, x36))), (x37, x38)) =>
  bindO (dialtoneref36_Park ((x13, (x14, (x15, x16))), (a5, a6))) fun ((x40, (x41, (x42, x43))), (x44, x45)) =>
  joinO (bif (decide (x38 ≠ x45)) then
    outO (some Bool.false)
   else
    bif (decide (x37 ≠ x44)) then
     outO (some Bool.false)
    else
     bindO (dialtoneref36_SameLot ((x33, (x34, (x35, x36))), (x40, (x41, (x42, x43))))) fun x46 =>
     bif (!x46) then
      outO (some Bool.false)
     else
      some (Sum.inl ())) fun _ =>
  bindO (queues_Fetch ((x8, (x9, (x10, x11))), a5)) fun ((x48, (x49, (x50, x51))), (x52, x53)) =>
  bindO (dialtoneref36_Fetch ((x13, (x14, (x15, x16))), a5)) fun ((x55, (x56, (x57, x58))), (x59, x60)) =>
  joinO (bif (decide (x53 ≠ x60)) then
    outO (some Bool.false)
   else
    bif (decide (x52 ≠ x59)) then
     outO (some Bool.false)
    else
     bindO (dialtoneref36_SameLot ((x48, (x49, (x50, x51))), (x55, (x56, (x57, x58))))) fun x61 =>
     bif (!x61) then
      outO (some Bool.false)
     else
      some (Sum.inl ())) fun _ =>
  bindO (queues_Expire ((x8, (x9, (x10, x11))), a6)) fun ((x63, (x64, (x65, x66))), x67) =>
  bindO (dialtoneref36_Expire ((x13, (x14, (x15, x16))), a6)) fun ((x69, (x70, (x71, x72))), x73) =>
  joinO (bif (decide ((((List.length x67) : Nat) : Int) ≠ (((List.length x73) : Nat) : Int))) then
    outO (some Bool.false)
   else
    bindO (dialtoneref36_SameLot ((x63, (x64, (x65, x66))), (x69, (x70, (x71, x72))))) fun x74 =>
    bif (!x74) then
     outO (some Bool.false)
    else
     bindO (dialtoneref36_SameLot ((x8, (x9, (x10, x11))), (x13, (x14, (x15, x16))))) fun x75 =>
     bif (!x75) then
      outO (some Bool.false)
     else
      some (Sum.inl ())) fun _ =>
  joinO (loopO (fun v76 =>
    bif (decide (v76 < (((List.length x73) : Nat) : Int))) then
     bif (decide (((0 : Int) ≤ v76) ∧ (v76 < (((List.length x67) : Nat) : Int)))) then 
      bindO x67[(Int.toNat v76)]? fun x77 =>
      bif (decide (((0 : Int) ≤ v76) ∧ (v76 < (((List.length x73) : Nat) : Int)))) then 
       bindO x73[(Int.toNat v76)]? fun x78 =>
       bif (decide (x77 ≠ x78)) then
        outO (outO (some Bool.false))
       else
        some (Sum.inl (Go.IntKind.wrap .i64 (v76 + (1 : Int))))
      else none
     else none
    else
     outO (some (Sum.inl ()))) (0 : Int)) fun _ =>
  some Bool.true
noncomputable def cons7 : List (Nat × CE) := [(14, ⟨[], riB, (fun _ => some true)⟩), (57, ⟨[(.tmp 0 false [(.dat (.int .i64))]), (.tmp 1 false [(.dat (.int .i64))]), (.tmp 2 false [(.dat (.int .i64))])], [(.tmp 0 false [(.dat .bool)])], queues_within⟩), (30, ⟨[(.tmp 0 true [(.dat (.int .i64)), (.dat (.int .i64)), (.dat (.int .i64)), (.dat (.list (.pair (.int .i64) (.pair (.int .i64) (.int .i64)))))])], [(.tmp 0 false [(.dat .bool)])], queues_MayLot⟩), (27, ⟨[(.tmp 0 false [(.dat (.int .i64))]), (.tmp 1 false [(.dat (.int .i64))]), (.tmp 2 false [(.dat (.int .i64))])], [(.tmp 0 true [(.dat (.int .i64)), (.dat (.int .i64)), (.dat (.int .i64)), (.dat (.list (.pair (.int .i64) (.pair (.int .i64) (.int .i64)))))]), (.tmp 1 false [(.dat (.int .u8))])], queues_NewLot⟩), (32, ⟨[(.tmp 0 true [(.dat (.int .i64)), (.dat (.int .i64)), (.dat (.int .i64)), (.dat (.list (.pair (.int .i64) (.pair (.int .i64) (.int .i64)))))]), (.tmp 1 false [(.dat (.int .i64))]), (.tmp 2 false [(.dat (.int .i64))])], [(.tmp 0 true [(.dat (.int .i64)), (.dat (.int .i64)), (.dat (.int .i64)), (.dat (.list (.pair (.int .i64) (.pair (.int .i64) (.int .i64)))))]), (.tmp 1 false [(.dat (.int .i64))]), (.tmp 2 false [(.dat (.int .u8))])], queues_Park⟩), (34, ⟨[(.tmp 0 true [(.dat (.int .i64)), (.dat (.int .i64)), (.dat (.int .i64)), (.dat (.list (.pair (.int .i64) (.pair (.int .i64) (.int .i64)))))]), (.tmp 1 false [(.dat (.int .i64))])], [(.tmp 0 true [(.dat (.int .i64)), (.dat (.int .i64)), (.dat (.int .i64)), (.dat (.list (.pair (.int .i64) (.pair (.int .i64) (.int .i64)))))]), (.tmp 1 false [(.dat (.int .i64))]), (.tmp 2 false [(.dat (.int .u8))])], queues_Fetch⟩), (36, ⟨[(.tmp 0 true [(.dat (.int .i64)), (.dat (.int .i64)), (.dat (.int .i64)), (.dat (.list (.pair (.int .i64) (.pair (.int .i64) (.int .i64)))))]), (.tmp 1 false [(.dat (.int .i64))])], [(.tmp 0 true [(.dat (.int .i64)), (.dat (.int .i64)), (.dat (.int .i64)), (.dat (.list (.pair (.int .i64) (.pair (.int .i64) (.int .i64)))))]), (.tmp 1 false [(.dat (.list (.int .i64)))])], queues_Expire⟩), (87, ⟨[(.tmp 0 false [(.dat (.int .i64))])], [(.tmp 0 false [(.dat .bool)])], dialtoneref36_id⟩), (31, ⟨[(.tmp 0 true [(.dat (.int .i64)), (.dat (.int .i64)), (.dat (.int .i64)), (.dat (.list (.pair (.int .i64) (.pair (.int .i64) (.int .i64)))))])], [(.tmp 0 false [(.dat .bool)])], dialtoneref36_MayLot⟩), (28, ⟨[(.tmp 0 false [(.dat (.int .i64))]), (.tmp 1 false [(.dat (.int .i64))]), (.tmp 2 false [(.dat (.int .i64))])], [(.tmp 0 true [(.dat (.int .i64)), (.dat (.int .i64)), (.dat (.int .i64)), (.dat (.list (.pair (.int .i64) (.pair (.int .i64) (.int .i64)))))]), (.tmp 1 false [(.dat (.int .u8))])], dialtoneref36_NewLot⟩), (33, ⟨[(.tmp 0 true [(.dat (.int .i64)), (.dat (.int .i64)), (.dat (.int .i64)), (.dat (.list (.pair (.int .i64) (.pair (.int .i64) (.int .i64)))))]), (.tmp 1 false [(.dat (.int .i64))]), (.tmp 2 false [(.dat (.int .i64))])], [(.tmp 0 true [(.dat (.int .i64)), (.dat (.int .i64)), (.dat (.int .i64)), (.dat (.list (.pair (.int .i64) (.pair (.int .i64) (.int .i64)))))]), (.tmp 1 false [(.dat (.int .i64))]), (.tmp 2 false [(.dat (.int .u8))])], dialtoneref36_Park⟩), (35, ⟨[(.tmp 0 true [(.dat (.int .i64)), (.dat (.int .i64)), (.dat (.int .i64)), (.dat (.list (.pair (.int .i64) (.pair (.int .i64) (.int .i64)))))]), (.tmp 1 false [(.dat (.int .i64))])], [(.tmp 0 true [(.dat (.int .i64)), (.dat (.int .i64)), (.dat (.int .i64)), (.dat (.list (.pair (.int .i64) (.pair (.int .i64) (.int .i64)))))]), (.tmp 1 false [(.dat (.int .i64))]), (.tmp 2 false [(.dat (.int .u8))])], dialtoneref36_Fetch⟩), (37, ⟨[(.tmp 0 true [(.dat (.int .i64)), (.dat (.int .i64)), (.dat (.int .i64)), (.dat (.list (.pair (.int .i64) (.pair (.int .i64) (.int .i64)))))]), (.tmp 1 false [(.dat (.int .i64))])], [(.tmp 0 true [(.dat (.int .i64)), (.dat (.int .i64)), (.dat (.int .i64)), (.dat (.list (.pair (.int .i64) (.pair (.int .i64) (.int .i64)))))]), (.tmp 1 false [(.dat (.list (.int .i64)))])], dialtoneref36_Expire⟩), (29, ⟨[(.tmp 0 true [(.dat (.int .i64)), (.dat (.int .i64)), (.dat (.int .i64)), (.dat (.list (.pair (.int .i64) (.pair (.int .i64) (.int .i64)))))]), (.tmp 1 true [(.dat (.int .i64)), (.dat (.int .i64)), (.dat (.int .i64)), (.dat (.list (.pair (.int .i64) (.pair (.int .i64) (.int .i64)))))])], [(.tmp 0 false [(.dat .bool)])], dialtoneref36_SameLot⟩), (26, ⟨[(.tmp 0 true [(.dat (.int .i64)), (.dat (.int .i64)), (.dat (.int .i64)), (.dat (.list (.pair (.int .i64) (.pair (.int .i64) (.int .i64)))))])], [(.tmp 0 true [(.dat (.int .i64)), (.dat (.int .i64)), (.dat (.int .i64)), (.dat (.list (.pair (.int .i64) (.pair (.int .i64) (.int .i64)))))])], dialtonelaw36_lot⟩)]
theorem cons7_ok : ConL Try.prog cons7 := ⟨con_true (by kernel_rfl) works_o, con57, con30, con27, con32, con34, con36, con87, con31, con28, con33, con35, con37, con29, con26, trivial⟩
theorem con7 : ConOk Try.prog 7 ⟨[(.tmp 0 true [(.dat (.int .i64)), (.dat (.int .i64)), (.dat (.int .i64)), (.dat (.list (.pair (.int .i64) (.pair (.int .i64) (.int .i64)))))]), (.tmp 1 false [(.dat (.int .i64))]), (.tmp 2 false [(.dat (.int .i64))])], [(.tmp 0 false [(.dat .bool)])], dialtonelaw36_QueuesParks⟩ :=
  tree_ok (plan := planOf plan7) (eg := egNo) KK tabL_ok (conOf_ok cons7_ok) Try.func7 (by kernel_rfl) (by kernel_rfl) 10000 (fun a r h => Eq.trans (show _ = dialtonelaw36_QueuesParks a from by kernel_rfl) h)
end Go.Proofs.Ytkmfgldoljegoaa
