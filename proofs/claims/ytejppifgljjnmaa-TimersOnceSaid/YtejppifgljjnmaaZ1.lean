/- Trees of functions, printed by the executor. -/
import Derived.Test.YtejppifgljjnmaaF
import Derived.Test.YtejppifgljjnmaaXB
import Derived.Test.YtejppifgljjnmaaL
set_option linter.unusedVariables false
set_option maxRecDepth 1000000
set_option maxHeartbeats 0
namespace Go.Proofs.Ytejppifgljjnmaa
open Go.RowKit
/-! ### dialtone/timers.Valid -/
def plan11 : List (Nat × PL) := [(68853957121, (.carry [.drop 3])), (9241421688456087558, (.carry [.tmp 11 false [(.dat (.int .i64))], .tmp 3 false [(.dat (.int .i64))]]))]
noncomputable def timers_Valid : (List (Int × (Int × Int))) → Option Bool := fun a1 =>
  bif (decide ((((List.length a1) : Nat) : Int) > (1000 : Int))) then
   some Bool.false
  else
   joinO (loopO (fun (v2, v3) =>
     bif (decide (v2 < (((List.length a1) : Nat) : Int))) then
      bif (decide (((0 : Int) ≤ v2) ∧ (v2 < (((List.length a1) : Nat) : Int)))) then 
       bindO a1[(Int.toNat v2)]? fun x4 =>
       bif (decide (x4.1 < v3)) then
        outO (outO (some Bool.false))
       else
        bif (decide (x4.1 > (1099511627776 : Int))) then
         outO (outO (some Bool.false))
        else
         some (Sum.inl ((Go.IntKind.wrap .i64 (v2 + (1 : Int))), x4.1))
      else none
     else
      outO (some (Sum.inl ()))) ((0 : Int), (0 : Int))) fun _ =>
   some Bool.true
noncomputable def cons11 : List (Nat × CE) := [(12, ⟨[], riB, (fun _ => some true)⟩)]
theorem cons11_ok : ConL Try.prog cons11 := ⟨con_true (by kernel_rfl) lives_o, trivial⟩
theorem con11 : ConOk Try.prog 11 ⟨[(.tmp 0 false [(.dat (.list (.pair (.int .i64) (.pair (.int .i64) (.int .i64)))))])], [(.tmp 0 false [(.dat .bool)])], timers_Valid⟩ :=
  tree_ok (plan := planOf plan11) (eg := egNo) KK tabL_ok (conOf_ok cons11_ok) Try.func11 (by kernel_rfl) (by kernel_rfl) 10000 (fun a r h => Eq.trans (show _ = timers_Valid a from by kernel_rfl) h)
/-! ### dialtone/timers.timely -/
def plan37 : List (Nat × PL) := []
noncomputable def timers_timely : (Int × (Int × Int)) → Option Bool := fun (a1, (a2, a3)) =>
  bif (decide (a1 ≥ (0 : Int))) then
   some (decide (a1 ≤ (1099511627776 : Int)))
  else
   some Bool.false
noncomputable def cons37 : List (Nat × CE) := [(12, ⟨[], riB, (fun _ => some true)⟩), (11, ⟨[(.tmp 0 false [(.dat (.list (.pair (.int .i64) (.pair (.int .i64) (.int .i64)))))])], [(.tmp 0 false [(.dat .bool)])], timers_Valid⟩)]
theorem cons37_ok : ConL Try.prog cons37 := ⟨con_true (by kernel_rfl) lives_o, con11, trivial⟩
theorem con37 : ConOk Try.prog 37 ⟨[(.tmp 0 true [(.dat (.int .i64)), (.dat (.int .i64)), (.dat (.int .i64))])], [(.tmp 0 false [(.dat .bool)])], timers_timely⟩ :=
  tree_ok (plan := planOf plan37) (eg := egNo) KK tabL_ok (conOf_ok cons37_ok) Try.func37 (by kernel_rfl) (by kernel_rfl) 10000 (fun a r h => Eq.trans (show _ = timers_timely a from by kernel_rfl) h)
/-! ### dialtone/timers.Add -/
def plan22 : List (Nat × PL) := [(35253226045953, (.carry [.tmp 6 false [(.dat (.int .i64))]])), (4731607904558101301254, (.carry [.tmp 24 false [(.dat (.int .i64))]]))]
noncomputable def timers_Add : ((List (Int × (Int × Int))) × (Int × (Int × Int))) → Option ((List (Int × (Int × Int))) × Int) := fun (a1, (a2, (a3, a4))) =>
  bindO (timers_Valid a1) fun x5 =>
  bif (!x5) then
   some (([] : List (Int × (Int × Int))), (2 : Int))
  else
   bindO (timers_timely (a2, (a3, a4))) fun x6 =>
   bif (!x6) then
    some (([] : List (Int × (Int × Int))), (2 : Int))
   else
    bif (decide ((((List.length a1) : Nat) : Int) ≥ (1000 : Int))) then
     some (([] : List (Int × (Int × Int))), (10 : Int))
    else
     joinO (loopO (fun v7 =>
       bif (decide (v7 < (((List.length a1) : Nat) : Int))) then
        bif (decide (((0 : Int) ≤ v7) ∧ (v7 < (((List.length a1) : Nat) : Int)))) then 
         bindO a1[(Int.toNat v7)]? fun x8 =>
         bif (decide (x8.1 > a2)) then
          outO (some (Sum.inl v7))
         else
          some (Sum.inl (Go.IntKind.wrap .i64 (v7 + (1 : Int))))
        else none
       else
        outO (some (Sum.inl (((List.length a1) : Nat) : Int)))) (0 : Int)) fun v10 =>
     bindO (some (Go.IntKind.wrap .i64 ((((List.length a1) : Nat) : Int) + (1 : Int)))) fun x11 =>
     bif (decide (((0 : Int) ≤ (0 : Int)) ∧ (((0 : Int) ≤ x11) ∧ (((x11 * (24 : Int)) ≤ (140737488355328 : Int)) ∧ (x11 ≤ (9223372036854775807 : Int)))))) then 
      bif (decide (((0 : Int) ≤ v10) ∧ (v10 ≤ (((List.length a1) : Nat) : Int)))) then 
       bindO (some (List.take (Int.toNat v10) a1)) fun x12 =>
       bif (decide (0 ≤ (List.length (List.replicate (Int.toNat x11) ((0 : Int), ((0 : Int), (0 : Int))))))) then 
        bif (decide (((List.length ((List.take 0 (List.replicate (Int.toNat x11) ((0 : Int), ((0 : Int), (0 : Int))))) ++ x12)) * 24) ≤ 140737488355328)) then 
         bindO (some ((List.take 0 (List.replicate (Int.toNat x11) ((0 : Int), ((0 : Int), (0 : Int))))) ++ x12)) fun x13 =>
         bif (decide ((List.length x13) ≤ (List.length x13))) then 
          bif (decide (((List.length ((List.take (List.length x13) x13) ++ ((a2, (a3, a4)) :: ([] : List (Int × (Int × Int)))))) * 24) ≤ 140737488355328)) then 
           bindO (some ((List.take (List.length x13) x13) ++ ((a2, (a3, a4)) :: ([] : List (Int × (Int × Int)))))) fun x14 =>
           bif (decide (((0 : Int) ≤ v10) ∧ (v10 ≤ (((List.length a1) : Nat) : Int)))) then 
            bindO (some (List.drop (Int.toNat v10) a1)) fun x15 =>
            bif (decide ((List.length x14) ≤ (List.length x14))) then 
             bif (decide (((List.length ((List.take (List.length x14) x14) ++ x15)) * 24) ≤ 140737488355328)) then 
              bindO (some ((List.take (List.length x14) x14) ++ x15)) fun x16 =>
              bif (decide ((List.length x16) ≤ (List.length x16))) then 
               some ((List.take (List.length x16) x16), (0 : Int))
              else none
             else none
            else none
           else none
          else none
         else none
        else none
       else none
      else none
     else none
noncomputable def cons22 : List (Nat × CE) := [(12, ⟨[], riB, (fun _ => some true)⟩), (11, ⟨[(.tmp 0 false [(.dat (.list (.pair (.int .i64) (.pair (.int .i64) (.int .i64)))))])], [(.tmp 0 false [(.dat .bool)])], timers_Valid⟩), (37, ⟨[(.tmp 0 true [(.dat (.int .i64)), (.dat (.int .i64)), (.dat (.int .i64))])], [(.tmp 0 false [(.dat .bool)])], timers_timely⟩)]
theorem cons22_ok : ConL Try.prog cons22 := ⟨con_true (by kernel_rfl) lives_o, con11, con37, trivial⟩
theorem con22 : ConOk Try.prog 22 ⟨[(.tmp 0 false [(.dat (.list (.pair (.int .i64) (.pair (.int .i64) (.int .i64)))))]), (.tmp 1 true [(.dat (.int .i64)), (.dat (.int .i64)), (.dat (.int .i64))])], [(.tmp 0 false [(.dat (.list (.pair (.int .i64) (.pair (.int .i64) (.int .i64)))))]), (.tmp 1 false [(.dat (.int .u8))])], timers_Add⟩ :=
  tree_ok (plan := planOf plan22) (eg := egNo) KK tabL_ok (conOf_ok cons22_ok) Try.func22 (by kernel_rfl) (by kernel_rfl) 10000 (fun a r h => Eq.trans (show _ = timers_Add a from by kernel_rfl) h)
/-! ### dialtone/timers.Restart -/
def plan24 : List (Nat × PL) := [(9241421622555181074, (.carry [.tmp 0 false [(.own 10000003 28 (.pair (.int .i64) (.pair (.int .i64) (.int .i64))))]])), (635065658198748138691144974849, (.carry [.tmp 5 false [(.own 10000002 28 (.pair (.int .i64) (.pair (.int .i64) (.int .i64))))]])), (85237069774260547619354372242715969542, (.carry [.tmp 13 false [(.dat (.int .i64))], .tmp 5 false [(.own 10000001 28 (.pair (.int .i64) (.pair (.int .i64) (.int .i64))))]]))]
noncomputable def timers_Restart : ((List (Int × (Int × Int))) × (Int × (Int × Int))) → Option ((List (Int × (Int × Int))) × Int) := fun (a1, (a2, (a3, a4))) =>
  bindO (timers_Valid a1) fun x5 =>
  bif (!x5) then
   some (([] : List (Int × (Int × Int))), (2 : Int))
  else
   bindO (timers_timely (a2, (a3, a4))) fun x6 =>
   bif (!x6) then
    some (([] : List (Int × (Int × Int))), (2 : Int))
   else
    joinO (bindO (timers_Valid a1) fun x7 =>
     bif (!x7) then
      some (Sum.inl ([] : List (Int × (Int × Int))))
     else
      joinO (loopO (fun (v8, v9) =>
        bif (decide (v8 < (((List.length a1) : Nat) : Int))) then
         bif (decide (((0 : Int) ≤ v8) ∧ (v8 < (((List.length a1) : Nat) : Int)))) then 
          bindO a1[(Int.toNat v8)]? fun x10 =>
          bif (decide (x10.2.1 = a3)) then
           bif (!(decide (x10.2.2 = a4))) then
            bif (decide ((List.length v9) ≤ (List.length v9))) then 
             bif (decide (((List.length ((List.take (List.length v9) v9) ++ ((x10.1, (x10.2.1, x10.2.2)) :: ([] : List (Int × (Int × Int)))))) * 24) ≤ 140737488355328)) then 
              bindO (some ((List.take (List.length v9) v9) ++ ((x10.1, (x10.2.1, x10.2.2)) :: ([] : List (Int × (Int × Int)))))) fun x11 =>
              bif (decide ((List.length x11) ≤ (List.length x11))) then 
               some (Sum.inl ((Go.IntKind.wrap .i64 (v8 + (1 : Int))), (List.take (List.length x11) x11)))
              else none
             else none
            else none
           else
            bif (decide ((List.length v9) ≤ (List.length v9))) then 
             some (Sum.inl ((Go.IntKind.wrap .i64 (v8 + (1 : Int))), (List.take (List.length v9) v9)))
            else none
          else
           bif (decide ((List.length v9) ≤ (List.length v9))) then 
            bif (decide (((List.length ((List.take (List.length v9) v9) ++ ((x10.1, (x10.2.1, x10.2.2)) :: ([] : List (Int × (Int × Int)))))) * 24) ≤ 140737488355328)) then 
             bindO (some ((List.take (List.length v9) v9) ++ ((x10.1, (x10.2.1, x10.2.2)) :: ([] : List (Int × (Int × Int)))))) fun x14 =>
             bif (decide ((List.length x14) ≤ (List.length x14))) then 
              some (Sum.inl ((Go.IntKind.wrap .i64 (v8 + (1 : Int))), (List.take (List.length x14) x14)))
             else none
            else none
           else none
         else none
        else
         outO (bif (decide ((List.length v9) ≤ (List.length v9))) then 
          some (Sum.inl (List.take (List.length v9) v9))
         else none)) ((0 : Int), ([] : List (Int × (Int × Int))))) fun v16 =>
      bif (decide ((List.length v16) ≤ (List.length v16))) then 
       some (Sum.inl (List.take (List.length v16) v16))
      else none) fun v17 =>
    bif (decide ((List.length v17) ≤ (List.length v17))) then 
     bindO (timers_Add ((List.take (List.length v17) v17), (a2, (a3, a4)))) fun (x19, x20) =>
     some (x19, x20)
    else none
noncomputable def cons24 : List (Nat × CE) := [(12, ⟨[], riB, (fun _ => some true)⟩), (11, ⟨[(.tmp 0 false [(.dat (.list (.pair (.int .i64) (.pair (.int .i64) (.int .i64)))))])], [(.tmp 0 false [(.dat .bool)])], timers_Valid⟩), (37, ⟨[(.tmp 0 true [(.dat (.int .i64)), (.dat (.int .i64)), (.dat (.int .i64))])], [(.tmp 0 false [(.dat .bool)])], timers_timely⟩), (22, ⟨[(.tmp 0 false [(.dat (.list (.pair (.int .i64) (.pair (.int .i64) (.int .i64)))))]), (.tmp 1 true [(.dat (.int .i64)), (.dat (.int .i64)), (.dat (.int .i64))])], [(.tmp 0 false [(.dat (.list (.pair (.int .i64) (.pair (.int .i64) (.int .i64)))))]), (.tmp 1 false [(.dat (.int .u8))])], timers_Add⟩)]
theorem cons24_ok : ConL Try.prog cons24 := ⟨con_true (by kernel_rfl) lives_o, con11, con37, con22, trivial⟩
theorem con24 : ConOk Try.prog 24 ⟨[(.tmp 0 false [(.dat (.list (.pair (.int .i64) (.pair (.int .i64) (.int .i64)))))]), (.tmp 1 true [(.dat (.int .i64)), (.dat (.int .i64)), (.dat (.int .i64))])], [(.tmp 0 false [(.dat (.list (.pair (.int .i64) (.pair (.int .i64) (.int .i64)))))]), (.tmp 1 false [(.dat (.int .u8))])], timers_Restart⟩ :=
  tree_ok (plan := planOf plan24) (eg := egNo) KK tabL_ok (conOf_ok cons24_ok) Try.func24 (by kernel_rfl) (by kernel_rfl) 10000 (fun a r h => Eq.trans (show _ = timers_Restart a from by kernel_rfl) h)
/-! ### dialtone/timers.Cancel -/
def plan26 : List (Nat × PL) := [(134479890, (.carry [.tmp 0 false [(.own 10000003 28 (.pair (.int .i64) (.pair (.int .i64) (.int .i64))))]])), (9241387672449319425, (.carry [.tmp 5 false [(.own 10000002 28 (.pair (.int .i64) (.pair (.int .i64) (.int .i64))))]])), (1240358056963355848235812870, (.carry [.tmp 13 false [(.dat (.int .i64))], .tmp 5 false [(.own 10000001 28 (.pair (.int .i64) (.pair (.int .i64) (.int .i64))))]]))]
noncomputable def timers_Cancel : ((List (Int × (Int × Int))) × (Int × Int)) → Option (List (Int × (Int × Int))) := fun (a1, (a2, a3)) =>
  joinO (bindO (timers_Valid a1) fun x4 =>
   bif (!x4) then
    some (Sum.inl ([] : List (Int × (Int × Int))))
   else
    joinO (loopO (fun (v5, v6) =>
      bif (decide (v5 < (((List.length a1) : Nat) : Int))) then
       bif (decide (((0 : Int) ≤ v5) ∧ (v5 < (((List.length a1) : Nat) : Int)))) then 
        bindO a1[(Int.toNat v5)]? fun x7 =>
        bif (decide (x7.2.1 = a2)) then
         bif (!(decide (x7.2.2 = a3))) then
          bif (decide ((List.length v6) ≤ (List.length v6))) then 
           bif (decide (((List.length ((List.take (List.length v6) v6) ++ ((x7.1, (x7.2.1, x7.2.2)) :: ([] : List (Int × (Int × Int)))))) * 24) ≤ 140737488355328)) then 
            bindO (some ((List.take (List.length v6) v6) ++ ((x7.1, (x7.2.1, x7.2.2)) :: ([] : List (Int × (Int × Int)))))) fun x8 =>
            bif (decide ((List.length x8) ≤ (List.length x8))) then 
             some (Sum.inl ((Go.IntKind.wrap .i64 (v5 + (1 : Int))), (List.take (List.length x8) x8)))
            else none
           else none
          else none
         else
          bif (decide ((List.length v6) ≤ (List.length v6))) then 
           some (Sum.inl ((Go.IntKind.wrap .i64 (v5 + (1 : Int))), (List.take (List.length v6) v6)))
          else none
        else
         bif (decide ((List.length v6) ≤ (List.length v6))) then 
          bif (decide (((List.length ((List.take (List.length v6) v6) ++ ((x7.1, (x7.2.1, x7.2.2)) :: ([] : List (Int × (Int × Int)))))) * 24) ≤ 140737488355328)) then 
           bindO (some ((List.take (List.length v6) v6) ++ ((x7.1, (x7.2.1, x7.2.2)) :: ([] : List (Int × (Int × Int)))))) fun x11 =>
           bif (decide ((List.length x11) ≤ (List.length x11))) then 
            some (Sum.inl ((Go.IntKind.wrap .i64 (v5 + (1 : Int))), (List.take (List.length x11) x11)))
           else none
          else none
         else none
       else none
      else
       outO (bif (decide ((List.length v6) ≤ (List.length v6))) then 
        some (Sum.inl (List.take (List.length v6) v6))
       else none)) ((0 : Int), ([] : List (Int × (Int × Int))))) fun v13 =>
    bif (decide ((List.length v13) ≤ (List.length v13))) then 
     some (Sum.inl (List.take (List.length v13) v13))
    else none) fun v14 =>
  bif (decide ((List.length v14) ≤ (List.length v14))) then 
   some (List.take (List.length v14) v14)
  else none
noncomputable def cons26 : List (Nat × CE) := [(12, ⟨[], riB, (fun _ => some true)⟩), (11, ⟨[(.tmp 0 false [(.dat (.list (.pair (.int .i64) (.pair (.int .i64) (.int .i64)))))])], [(.tmp 0 false [(.dat .bool)])], timers_Valid⟩), (37, ⟨[(.tmp 0 true [(.dat (.int .i64)), (.dat (.int .i64)), (.dat (.int .i64))])], [(.tmp 0 false [(.dat .bool)])], timers_timely⟩), (22, ⟨[(.tmp 0 false [(.dat (.list (.pair (.int .i64) (.pair (.int .i64) (.int .i64)))))]), (.tmp 1 true [(.dat (.int .i64)), (.dat (.int .i64)), (.dat (.int .i64))])], [(.tmp 0 false [(.dat (.list (.pair (.int .i64) (.pair (.int .i64) (.int .i64)))))]), (.tmp 1 false [(.dat (.int .u8))])], timers_Add⟩), (24, ⟨[(.tmp 0 false [(.dat (.list (.pair (.int .i64) (.pair (.int .i64) (.int .i64)))))]), (.tmp 1 true [(.dat (.int .i64)), (.dat (.int .i64)), (.dat (.int .i64))])], [(.tmp 0 false [(.dat (.list (.pair (.int .i64) (.pair (.int .i64) (.int .i64)))))]), (.tmp 1 false [(.dat (.int .u8))])], timers_Restart⟩)]
theorem cons26_ok : ConL Try.prog cons26 := ⟨con_true (by kernel_rfl) lives_o, con11, con37, con22, con24, trivial⟩
theorem con26 : ConOk Try.prog 26 ⟨[(.tmp 0 false [(.dat (.list (.pair (.int .i64) (.pair (.int .i64) (.int .i64)))))]), (.tmp 1 false [(.dat (.int .i64))]), (.tmp 2 false [(.dat (.int .i64))])], [(.tmp 0 false [(.dat (.list (.pair (.int .i64) (.pair (.int .i64) (.int .i64)))))])], timers_Cancel⟩ :=
  tree_ok (plan := planOf plan26) (eg := egNo) KK tabL_ok (conOf_ok cons26_ok) Try.func26 (by kernel_rfl) (by kernel_rfl) 10000 (fun a r h => Eq.trans (show _ = timers_Cancel a from by kernel_rfl) h)
/-! ### dialtone/timers.CancelAll -/
def plan27 : List (Nat × PL) := [(134479890, (.carry [.tmp 0 false [(.own 10000003 28 (.pair (.int .i64) (.pair (.int .i64) (.int .i64))))]])), (9241387672449319425, (.carry [.tmp 5 false [(.own 10000002 28 (.pair (.int .i64) (.pair (.int .i64) (.int .i64))))]])), (1240358056963355848235812870, (.carry [.tmp 13 false [(.dat (.int .i64))], .tmp 5 false [(.own 10000001 28 (.pair (.int .i64) (.pair (.int .i64) (.int .i64))))]]))]
noncomputable def timers_CancelAll : ((List (Int × (Int × Int))) × Int) → Option (List (Int × (Int × Int))) := fun (a1, a2) =>
  joinO (bindO (timers_Valid a1) fun x3 =>
   bif (!x3) then
    some (Sum.inl ([] : List (Int × (Int × Int))))
   else
    joinO (loopO (fun (v4, v5) =>
      bif (decide (v4 < (((List.length a1) : Nat) : Int))) then
       bif (decide (((0 : Int) ≤ v4) ∧ (v4 < (((List.length a1) : Nat) : Int)))) then 
        bindO a1[(Int.toNat v4)]? fun x6 =>
        bif (!(decide (x6.2.1 = a2))) then
         bif (decide ((List.length v5) ≤ (List.length v5))) then 
          bif (decide (((List.length ((List.take (List.length v5) v5) ++ ((x6.1, (x6.2.1, x6.2.2)) :: ([] : List (Int × (Int × Int)))))) * 24) ≤ 140737488355328)) then 
           bindO (some ((List.take (List.length v5) v5) ++ ((x6.1, (x6.2.1, x6.2.2)) :: ([] : List (Int × (Int × Int)))))) fun x7 =>
           bif (decide ((List.length x7) ≤ (List.length x7))) then 
            some (Sum.inl ((Go.IntKind.wrap .i64 (v4 + (1 : Int))), (List.take (List.length x7) x7)))
           else none
          else none
         else none
        else
         bif (decide ((List.length v5) ≤ (List.length v5))) then 
          some (Sum.inl ((Go.IntKind.wrap .i64 (v4 + (1 : Int))), (List.take (List.length v5) v5)))
         else none
       else none
      else
       outO (bif (decide ((List.length v5) ≤ (List.length v5))) then 
        some (Sum.inl (List.take (List.length v5) v5))
       else none)) ((0 : Int), ([] : List (Int × (Int × Int))))) fun v10 =>
    bif (decide ((List.length v10) ≤ (List.length v10))) then 
     some (Sum.inl (List.take (List.length v10) v10))
    else none) fun v11 =>
  bif (decide ((List.length v11) ≤ (List.length v11))) then 
   some (List.take (List.length v11) v11)
  else none
noncomputable def cons27 : List (Nat × CE) := [(12, ⟨[], riB, (fun _ => some true)⟩), (11, ⟨[(.tmp 0 false [(.dat (.list (.pair (.int .i64) (.pair (.int .i64) (.int .i64)))))])], [(.tmp 0 false [(.dat .bool)])], timers_Valid⟩), (37, ⟨[(.tmp 0 true [(.dat (.int .i64)), (.dat (.int .i64)), (.dat (.int .i64))])], [(.tmp 0 false [(.dat .bool)])], timers_timely⟩), (22, ⟨[(.tmp 0 false [(.dat (.list (.pair (.int .i64) (.pair (.int .i64) (.int .i64)))))]), (.tmp 1 true [(.dat (.int .i64)), (.dat (.int .i64)), (.dat (.int .i64))])], [(.tmp 0 false [(.dat (.list (.pair (.int .i64) (.pair (.int .i64) (.int .i64)))))]), (.tmp 1 false [(.dat (.int .u8))])], timers_Add⟩), (24, ⟨[(.tmp 0 false [(.dat (.list (.pair (.int .i64) (.pair (.int .i64) (.int .i64)))))]), (.tmp 1 true [(.dat (.int .i64)), (.dat (.int .i64)), (.dat (.int .i64))])], [(.tmp 0 false [(.dat (.list (.pair (.int .i64) (.pair (.int .i64) (.int .i64)))))]), (.tmp 1 false [(.dat (.int .u8))])], timers_Restart⟩), (26, ⟨[(.tmp 0 false [(.dat (.list (.pair (.int .i64) (.pair (.int .i64) (.int .i64)))))]), (.tmp 1 false [(.dat (.int .i64))]), (.tmp 2 false [(.dat (.int .i64))])], [(.tmp 0 false [(.dat (.list (.pair (.int .i64) (.pair (.int .i64) (.int .i64)))))])], timers_Cancel⟩)]
theorem cons27_ok : ConL Try.prog cons27 := ⟨con_true (by kernel_rfl) lives_o, con11, con37, con22, con24, con26, trivial⟩
theorem con27 : ConOk Try.prog 27 ⟨[(.tmp 0 false [(.dat (.list (.pair (.int .i64) (.pair (.int .i64) (.int .i64)))))]), (.tmp 1 false [(.dat (.int .i64))])], [(.tmp 0 false [(.dat (.list (.pair (.int .i64) (.pair (.int .i64) (.int .i64)))))])], timers_CancelAll⟩ :=
  tree_ok (plan := planOf plan27) (eg := egNo) KK tabL_ok (conOf_ok cons27_ok) Try.func27 (by kernel_rfl) (by kernel_rfl) 10000 (fun a r h => Eq.trans (show _ = timers_CancelAll a from by kernel_rfl) h)
/-! ### dialtone/timers.Count -/
def plan30 : List (Nat × PL) := [(68853957121, (.carry [.tmp 5 false [(.dat (.int .i64))]])), (9241421688456087558, (.carry [.tmp 13 false [(.dat (.int .i64))], .tmp 5 false [(.dat (.int .i64))]]))]
noncomputable def timers_Count : ((List (Int × (Int × Int))) × Int) → Option Int := fun (a1, a2) =>
  bindO (timers_Valid a1) fun x3 =>
  bif (!x3) then
   some (0 : Int)
  else
   joinO (loopO (fun (v4, v5) =>
     bif (decide (v4 < (((List.length a1) : Nat) : Int))) then
      bif (decide (((0 : Int) ≤ v4) ∧ (v4 < (((List.length a1) : Nat) : Int)))) then 
       bindO a1[(Int.toNat v4)]? fun x6 =>
       bif (decide (x6.2.1 = a2)) then
        some (Sum.inl ((Go.IntKind.wrap .i64 (v4 + (1 : Int))), (Go.IntKind.wrap .i64 (v5 + (1 : Int)))))
       else
        some (Sum.inl ((Go.IntKind.wrap .i64 (v4 + (1 : Int))), v5))
      else none
     else
      outO (some (Sum.inl v5))) ((0 : Int), (0 : Int))) fun v10 =>
   some v10
noncomputable def cons30 : List (Nat × CE) := [(12, ⟨[], riB, (fun _ => some true)⟩), (11, ⟨[(.tmp 0 false [(.dat (.list (.pair (.int .i64) (.pair (.int .i64) (.int .i64)))))])], [(.tmp 0 false [(.dat .bool)])], timers_Valid⟩), (37, ⟨[(.tmp 0 true [(.dat (.int .i64)), (.dat (.int .i64)), (.dat (.int .i64))])], [(.tmp 0 false [(.dat .bool)])], timers_timely⟩), (22, ⟨[(.tmp 0 false [(.dat (.list (.pair (.int .i64) (.pair (.int .i64) (.int .i64)))))]), (.tmp 1 true [(.dat (.int .i64)), (.dat (.int .i64)), (.dat (.int .i64))])], [(.tmp 0 false [(.dat (.list (.pair (.int .i64) (.pair (.int .i64) (.int .i64)))))]), (.tmp 1 false [(.dat (.int .u8))])], timers_Add⟩), (24, ⟨[(.tmp 0 false [(.dat (.list (.pair (.int .i64) (.pair (.int .i64) (.int .i64)))))]), (.tmp 1 true [(.dat (.int .i64)), (.dat (.int .i64)), (.dat (.int .i64))])], [(.tmp 0 false [(.dat (.list (.pair (.int .i64) (.pair (.int .i64) (.int .i64)))))]), (.tmp 1 false [(.dat (.int .u8))])], timers_Restart⟩), (26, ⟨[(.tmp 0 false [(.dat (.list (.pair (.int .i64) (.pair (.int .i64) (.int .i64)))))]), (.tmp 1 false [(.dat (.int .i64))]), (.tmp 2 false [(.dat (.int .i64))])], [(.tmp 0 false [(.dat (.list (.pair (.int .i64) (.pair (.int .i64) (.int .i64)))))])], timers_Cancel⟩), (27, ⟨[(.tmp 0 false [(.dat (.list (.pair (.int .i64) (.pair (.int .i64) (.int .i64)))))]), (.tmp 1 false [(.dat (.int .i64))])], [(.tmp 0 false [(.dat (.list (.pair (.int .i64) (.pair (.int .i64) (.int .i64)))))])], timers_CancelAll⟩)]
theorem cons30_ok : ConL Try.prog cons30 := ⟨con_true (by kernel_rfl) lives_o, con11, con37, con22, con24, con26, con27, trivial⟩
theorem con30 : ConOk Try.prog 30 ⟨[(.tmp 0 false [(.dat (.list (.pair (.int .i64) (.pair (.int .i64) (.int .i64)))))]), (.tmp 1 false [(.dat (.int .i64))])], [(.tmp 0 false [(.dat (.int .i64))])], timers_Count⟩ :=
  tree_ok (plan := planOf plan30) (eg := egNo) KK tabL_ok (conOf_ok cons30_ok) Try.func30 (by kernel_rfl) (by kernel_rfl) 10000 (fun a r h => Eq.trans (show _ = timers_Count a from by kernel_rfl) h)
end Go.Proofs.Ytejppifgljjnmaa
