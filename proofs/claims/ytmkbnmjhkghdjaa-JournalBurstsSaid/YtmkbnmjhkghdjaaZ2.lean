/- Trees of functions, printed by the executor. -/
import Derived.Test.YtmkbnmjhkghdjaaF
import Derived.Test.YtmkbnmjhkghdjaaXB
import Derived.Test.YtmkbnmjhkghdjaaZ1
import Derived.Test.YtmkbnmjhkghdjaaL
set_option linter.unusedVariables false
set_option maxRecDepth 1000000
set_option maxHeartbeats 0
namespace Go.Proofs.Ytmkbnmjhkghdjaa
open Go.RowKit
/-! ### dialtone/dialtonelaw20.few -/
def plan16 : List (Nat × PL) := [(134480385, (.carry [.tmp 3 false [(.own 10000002 24 (.pair (.int .u8) (.list (.int .u8))))]])), (18049651601311750, (.carry [.tmp 4 false [(.dat (.int .i64))], .tmp 3 false [(.own 10000001 24 (.pair (.int .u8) (.list (.int .u8))))]]))]
noncomputable def dialtonelaw20_few : (List (Int × (List Int))) → Option (List (Int × (List Int))) := fun a1 =>
  joinO (loopO (fun (v2, v3) =>
    bif (decide (v2 < (((List.length a1) : Nat) : Int))) then
     bif (decide ((((List.length v3) : Nat) : Int) < (20 : Int))) then
      bif (decide (((0 : Int) ≤ v2) ∧ (v2 < (((List.length a1) : Nat) : Int)))) then 
       bindO a1[(Int.toNat v2)]? fun x4 =>
       bif (decide ((((List.length x4.2) : Nat) : Int) ≤ (200 : Int))) then
        bif (decide (((0 : Int) ≤ v2) ∧ (v2 < (((List.length a1) : Nat) : Int)))) then 
         bindO a1[(Int.toNat v2)]? fun x5 =>
         bif (decide ((List.length v3) ≤ (List.length v3))) then 
          bif (decide (((List.length ((List.take (List.length v3) v3) ++ ((x5.1, x5.2) :: ([] : List (Int × (List Int)))))) * 32) ≤ 140737488355328)) then 
           bindO (some ((List.take (List.length v3) v3) ++ ((x5.1, x5.2) :: ([] : List (Int × (List Int)))))) fun x6 =>
           bif (decide ((List.length x6) ≤ (List.length x6))) then 
            some (Sum.inl ((Go.IntKind.wrap .i64 (v2 + (1 : Int))), (List.take (List.length x6) x6)))
           else none
          else none
         else none
        else none
       else
        bif (decide ((List.length v3) ≤ (List.length v3))) then 
         some (Sum.inl ((Go.IntKind.wrap .i64 (v2 + (1 : Int))), (List.take (List.length v3) v3)))
        else none
      else none
     else
      outO (bif (decide ((List.length v3) ≤ (List.length v3))) then 
       some (Sum.inl (List.take (List.length v3) v3))
      else none)
    else
     outO (bif (decide ((List.length v3) ≤ (List.length v3))) then 
      some (Sum.inl (List.take (List.length v3) v3))
     else none)) ((0 : Int), ([] : List (Int × (List Int))))) fun v9 =>
  bif (decide ((List.length v9) ≤ (List.length v9))) then 
   some (List.take (List.length v9) v9)
  else none
noncomputable def cons16 : List (Nat × CE) := [(14, ⟨[(.tmp 0 false [(.dat (.list (.int .u8)))])], [(.tmp 0 false [(.dat (.int .u32))])], journal_Check⟩), (15, ⟨[(.tmp 0 false [(.dat (.list (.int .u8)))])], [(.tmp 0 false [(.dat (.int .u32))])], dialtoneref20_Check⟩), (34, ⟨[(.tmp 0 false [(.dat (.int .i64))]), (.tmp 1 false [(.dat (.int .i64))])], [(.tmp 0 false [(.dat (.list (.int .u8)))])], dialtoneref20_number⟩), (12, ⟨[(.tmp 0 false [(.dat (.int .i64))]), (.tmp 1 true [(.dat (.int .u8)), (.dat (.list (.int .u8)))])], [(.tmp 0 false [(.dat (.list (.int .u8)))]), (.tmp 1 false [(.dat (.int .u8))])], journal_Encode⟩), (13, ⟨[(.tmp 0 false [(.dat (.int .i64))]), (.tmp 1 true [(.dat (.int .u8)), (.dat (.list (.int .u8)))])], [(.tmp 0 false [(.dat (.list (.int .u8)))]), (.tmp 1 false [(.dat (.int .u8))])], dialtoneref20_Encode⟩), (39, ⟨[(.tmp 0 false [(.dat (.list (.int .u8)))]), (.tmp 1 false [(.dat (.int .i64))])], [(.tmp 0 false [(.dat .bool)])], journal_begins⟩), (40, ⟨[(.tmp 0 false [(.dat (.list (.int .u8)))]), (.tmp 1 false [(.dat (.int .i64))])], [(.tmp 0 false [(.dat .bool)])], dialtoneref20_wrong⟩), (37, ⟨[(.tmp 0 false [(.dat (.list (.int .u8)))]), (.tmp 1 false [(.dat (.list (.int .u8)))])], [(.tmp 0 false [(.dat (.list (.int .u8)))])], journal_joined⟩), (38, ⟨[(.tmp 0 false [(.dat (.list (.int .u8)))])], [(.tmp 0 false [(.dat (.list (.int .u8)))])], dialtoneref20_copied⟩), (27, ⟨[(.tmp 0 true [(.dat (.list (.int .u8))), (.dat (.int .i64)), (.dat (.int .i64))])], [(.tmp 0 false [(.dat .bool)])], journal_Valid⟩), (28, ⟨[(.tmp 0 true [(.dat (.list (.int .u8))), (.dat (.int .i64)), (.dat (.int .i64))])], [(.tmp 0 false [(.dat .bool)])], dialtoneref20_Valid⟩), (36, ⟨[(.tmp 0 false [(.dat (.list (.int .u8)))]), (.tmp 1 false [(.dat (.int .i64))])], [(.tmp 0 true [(.dat (.int .u8)), (.dat (.list (.int .u8)))]), (.tmp 1 false [(.dat (.int .i64))]), (.tmp 2 false [(.dat (.int .u8))])], dialtoneref20_One⟩), (18, ⟨[(.tmp 0 false [(.dat (.list (.int .u8)))])], [(.tmp 0 false [(.dat (.list (.pair (.int .u8) (.list (.int .u8)))))]), (.tmp 1 false [(.dat (.int .i64))]), (.tmp 2 false [(.dat (.int .u8))])], journal_Scan⟩), (20, ⟨[(.tmp 0 false [(.dat (.list (.int .u8)))])], [(.tmp 0 false [(.dat (.list (.pair (.int .u8) (.list (.int .u8)))))]), (.tmp 1 false [(.dat (.int .i64))]), (.tmp 2 false [(.dat (.int .u8))])], dialtoneref20_Scan⟩), (21, ⟨[(.tmp 0 false [(.dat (.list (.int .u8)))])], [(.tmp 0 true [(.dat (.list (.int .u8))), (.dat (.int .i64)), (.dat (.int .i64))]), (.tmp 1 false [(.dat (.list (.pair (.int .u8) (.list (.int .u8)))))])], journal_Recover⟩), (22, ⟨[(.tmp 0 false [(.dat (.list (.int .u8)))])], [(.tmp 0 true [(.dat (.list (.int .u8))), (.dat (.int .i64)), (.dat (.int .i64))]), (.tmp 1 false [(.dat (.list (.pair (.int .u8) (.list (.int .u8)))))])], dialtoneref20_Recover⟩), (19, ⟨[(.tmp 0 false [(.dat (.list (.pair (.int .u8) (.list (.int .u8)))))]), (.tmp 1 false [(.dat (.list (.pair (.int .u8) (.list (.int .u8)))))])], [(.tmp 0 false [(.dat .bool)])], dialtoneref20_Same⟩), (23, ⟨[(.tmp 0 true [(.dat (.list (.int .u8))), (.dat (.int .i64)), (.dat (.int .i64))]), (.tmp 1 true [(.dat (.list (.int .u8))), (.dat (.int .i64)), (.dat (.int .i64))])], [(.tmp 0 false [(.dat .bool)])], dialtoneref20_SameLog⟩), (25, ⟨[(.tmp 0 true [(.dat (.list (.int .u8))), (.dat (.int .i64)), (.dat (.int .i64))]), (.tmp 1 true [(.dat (.int .u8)), (.dat (.list (.int .u8)))])], [(.tmp 0 true [(.dat (.list (.int .u8))), (.dat (.int .i64)), (.dat (.int .i64))]), (.tmp 1 false [(.dat (.int .u8))])], journal_Append⟩), (29, ⟨[(.tmp 0 true [(.dat (.list (.int .u8))), (.dat (.int .i64)), (.dat (.int .i64))])], [(.tmp 0 true [(.dat (.list (.int .u8))), (.dat (.int .i64)), (.dat (.int .i64))])], journal_Sync⟩), (24, ⟨[(.tmp 0 true [(.dat (.list (.int .u8))), (.dat (.int .i64)), (.dat (.int .i64))]), (.tmp 1 false [(.dat (.int .i64))])], [(.tmp 0 false [(.dat (.list (.int .u8)))])], journal_Crash⟩), (11, ⟨[], riB, (fun _ => some true)⟩)]
theorem cons16_ok : ConL Try.prog cons16 := ⟨con14, con15, con34, con12, con13, con39, con40, con37, con38, con27, con28, con36, con18, con20, con21, con22, con19, con23, con25, con29, con24, con_true (by kernel_rfl) lives_o, trivial⟩
theorem con16 : ConOk Try.prog 16 ⟨[(.tmp 0 false [(.dat (.list (.pair (.int .u8) (.list (.int .u8)))))])], [(.tmp 0 false [(.dat (.list (.pair (.int .u8) (.list (.int .u8)))))])], dialtonelaw20_few⟩ :=
  tree_ok (plan := planOf plan16) (eg := egNo) KK tabL_ok (conOf_ok cons16_ok) Try.func16 (by kernel_rfl) (by kernel_rfl) 10000 (fun a r h => Eq.trans (show _ = dialtonelaw20_few a from by kernel_rfl) h)
/-! ### dialtone/dialtonelaw20.write -/
def plan17 : List (Nat × PL) := [(68853957121, (.carry [.tmp 6 false [(.own 10000002 3 (.int .i64))], .mix 3 [(.dat (.list (.int .u8))), (.dat (.int .i64)), (.dat (.int .i64))]])), (9241421688456087558, (.carry [.tmp 7 false [(.dat (.int .i64))], .tmp 6 false [(.own 10000001 3 (.int .i64))], .mix 3 [(.dat (.list (.int .u8))), (.dat (.int .i64)), (.dat (.int .i64))]]))]
noncomputable def dialtonelaw20_write : (List (Int × (List Int))) → Option (((List Int) × (Int × Int)) × ((List Int) × Bool)) := fun a1 =>
  joinO (loopO (fun (v2, (v3, (v4, (v5, v6)))) =>
    bif (decide (v2 < (((List.length a1) : Nat) : Int))) then
     bif (decide (((0 : Int) ≤ v2) ∧ (v2 < (((List.length a1) : Nat) : Int)))) then 
      bindO a1[(Int.toNat v2)]? fun x7 =>
      bindO (journal_Append ((v4, (v5, v6)), (x7.1, x7.2))) fun ((x9, (x10, x11)), x12) =>
      bif (decide (x12 ≠ (0 : Int))) then
       outO (outO (some ((([] : List Int), ((0 : Int), (0 : Int))), (([] : List Int), Bool.false))))
      else
       bif (decide (((0 : Int) ≤ v2) ∧ (v2 < (((List.length a1) : Nat) : Int)))) then 
        bindO a1[(Int.toNat v2)]? fun x14 =>
        bif (decide ((((List.length x9) : Nat) : Int) ≠ (Go.IntKind.wrap .i64 ((Go.IntKind.wrap .i64 ((((List.length v4) : Nat) : Int) + (14 : Int))) + (((List.length x14.2) : Nat) : Int))))) then
         outO (outO (some ((([] : List Int), ((0 : Int), (0 : Int))), (([] : List Int), Bool.false))))
        else
         bif (decide (x11 ≠ (Go.IntKind.wrap .i64 (v2 + (1 : Int))))) then
          outO (outO (some ((([] : List Int), ((0 : Int), (0 : Int))), (([] : List Int), Bool.false))))
         else
          bif (decide (x10 ≠ (0 : Int))) then
           outO (outO (some ((([] : List Int), ((0 : Int), (0 : Int))), (([] : List Int), Bool.false))))
          else
           bif (decide ((List.length v3) ≤ (List.length v3))) then 
            bif (decide (((List.length ((List.take (List.length v3) v3) ++ ((((List.length x9) : Nat) : Int) :: ([] : List Int)))) * 8) ≤ 140737488355328)) then 
             bindO (some ((List.take (List.length v3) v3) ++ ((((List.length x9) : Nat) : Int) :: ([] : List Int)))) fun x17 =>
             bif (decide ((List.length x17) ≤ (List.length x17))) then 
              some (Sum.inl ((Go.IntKind.wrap .i64 (v2 + (1 : Int))), ((List.take (List.length x17) x17), (x9, (x10, x11)))))
             else none
            else none
           else none
       else none
     else none
    else
     outO (bif (decide ((List.length v3) ≤ (List.length v3))) then 
      some (Sum.inl ((List.take (List.length v3) v3), (v4, (v5, v6))))
     else none)) ((0 : Int), (([] : List Int), (([] : List Int), ((0 : Int), (0 : Int)))))) fun (v19, (v20, (v21, v22))) =>
  bif (decide ((List.length v19) ≤ (List.length v19))) then 
   some ((v20, (v21, v22)), ((List.take (List.length v19) v19), Bool.true))
  else none
noncomputable def cons17 : List (Nat × CE) := [(14, ⟨[(.tmp 0 false [(.dat (.list (.int .u8)))])], [(.tmp 0 false [(.dat (.int .u32))])], journal_Check⟩), (15, ⟨[(.tmp 0 false [(.dat (.list (.int .u8)))])], [(.tmp 0 false [(.dat (.int .u32))])], dialtoneref20_Check⟩), (34, ⟨[(.tmp 0 false [(.dat (.int .i64))]), (.tmp 1 false [(.dat (.int .i64))])], [(.tmp 0 false [(.dat (.list (.int .u8)))])], dialtoneref20_number⟩), (12, ⟨[(.tmp 0 false [(.dat (.int .i64))]), (.tmp 1 true [(.dat (.int .u8)), (.dat (.list (.int .u8)))])], [(.tmp 0 false [(.dat (.list (.int .u8)))]), (.tmp 1 false [(.dat (.int .u8))])], journal_Encode⟩), (13, ⟨[(.tmp 0 false [(.dat (.int .i64))]), (.tmp 1 true [(.dat (.int .u8)), (.dat (.list (.int .u8)))])], [(.tmp 0 false [(.dat (.list (.int .u8)))]), (.tmp 1 false [(.dat (.int .u8))])], dialtoneref20_Encode⟩), (39, ⟨[(.tmp 0 false [(.dat (.list (.int .u8)))]), (.tmp 1 false [(.dat (.int .i64))])], [(.tmp 0 false [(.dat .bool)])], journal_begins⟩), (40, ⟨[(.tmp 0 false [(.dat (.list (.int .u8)))]), (.tmp 1 false [(.dat (.int .i64))])], [(.tmp 0 false [(.dat .bool)])], dialtoneref20_wrong⟩), (37, ⟨[(.tmp 0 false [(.dat (.list (.int .u8)))]), (.tmp 1 false [(.dat (.list (.int .u8)))])], [(.tmp 0 false [(.dat (.list (.int .u8)))])], journal_joined⟩), (38, ⟨[(.tmp 0 false [(.dat (.list (.int .u8)))])], [(.tmp 0 false [(.dat (.list (.int .u8)))])], dialtoneref20_copied⟩), (27, ⟨[(.tmp 0 true [(.dat (.list (.int .u8))), (.dat (.int .i64)), (.dat (.int .i64))])], [(.tmp 0 false [(.dat .bool)])], journal_Valid⟩), (28, ⟨[(.tmp 0 true [(.dat (.list (.int .u8))), (.dat (.int .i64)), (.dat (.int .i64))])], [(.tmp 0 false [(.dat .bool)])], dialtoneref20_Valid⟩), (36, ⟨[(.tmp 0 false [(.dat (.list (.int .u8)))]), (.tmp 1 false [(.dat (.int .i64))])], [(.tmp 0 true [(.dat (.int .u8)), (.dat (.list (.int .u8)))]), (.tmp 1 false [(.dat (.int .i64))]), (.tmp 2 false [(.dat (.int .u8))])], dialtoneref20_One⟩), (18, ⟨[(.tmp 0 false [(.dat (.list (.int .u8)))])], [(.tmp 0 false [(.dat (.list (.pair (.int .u8) (.list (.int .u8)))))]), (.tmp 1 false [(.dat (.int .i64))]), (.tmp 2 false [(.dat (.int .u8))])], journal_Scan⟩), (20, ⟨[(.tmp 0 false [(.dat (.list (.int .u8)))])], [(.tmp 0 false [(.dat (.list (.pair (.int .u8) (.list (.int .u8)))))]), (.tmp 1 false [(.dat (.int .i64))]), (.tmp 2 false [(.dat (.int .u8))])], dialtoneref20_Scan⟩), (21, ⟨[(.tmp 0 false [(.dat (.list (.int .u8)))])], [(.tmp 0 true [(.dat (.list (.int .u8))), (.dat (.int .i64)), (.dat (.int .i64))]), (.tmp 1 false [(.dat (.list (.pair (.int .u8) (.list (.int .u8)))))])], journal_Recover⟩), (22, ⟨[(.tmp 0 false [(.dat (.list (.int .u8)))])], [(.tmp 0 true [(.dat (.list (.int .u8))), (.dat (.int .i64)), (.dat (.int .i64))]), (.tmp 1 false [(.dat (.list (.pair (.int .u8) (.list (.int .u8)))))])], dialtoneref20_Recover⟩), (19, ⟨[(.tmp 0 false [(.dat (.list (.pair (.int .u8) (.list (.int .u8)))))]), (.tmp 1 false [(.dat (.list (.pair (.int .u8) (.list (.int .u8)))))])], [(.tmp 0 false [(.dat .bool)])], dialtoneref20_Same⟩), (23, ⟨[(.tmp 0 true [(.dat (.list (.int .u8))), (.dat (.int .i64)), (.dat (.int .i64))]), (.tmp 1 true [(.dat (.list (.int .u8))), (.dat (.int .i64)), (.dat (.int .i64))])], [(.tmp 0 false [(.dat .bool)])], dialtoneref20_SameLog⟩), (25, ⟨[(.tmp 0 true [(.dat (.list (.int .u8))), (.dat (.int .i64)), (.dat (.int .i64))]), (.tmp 1 true [(.dat (.int .u8)), (.dat (.list (.int .u8)))])], [(.tmp 0 true [(.dat (.list (.int .u8))), (.dat (.int .i64)), (.dat (.int .i64))]), (.tmp 1 false [(.dat (.int .u8))])], journal_Append⟩), (29, ⟨[(.tmp 0 true [(.dat (.list (.int .u8))), (.dat (.int .i64)), (.dat (.int .i64))])], [(.tmp 0 true [(.dat (.list (.int .u8))), (.dat (.int .i64)), (.dat (.int .i64))])], journal_Sync⟩), (24, ⟨[(.tmp 0 true [(.dat (.list (.int .u8))), (.dat (.int .i64)), (.dat (.int .i64))]), (.tmp 1 false [(.dat (.int .i64))])], [(.tmp 0 false [(.dat (.list (.int .u8)))])], journal_Crash⟩), (11, ⟨[], riB, (fun _ => some true)⟩), (16, ⟨[(.tmp 0 false [(.dat (.list (.pair (.int .u8) (.list (.int .u8)))))])], [(.tmp 0 false [(.dat (.list (.pair (.int .u8) (.list (.int .u8)))))])], dialtonelaw20_few⟩)]
theorem cons17_ok : ConL Try.prog cons17 := ⟨con14, con15, con34, con12, con13, con39, con40, con37, con38, con27, con28, con36, con18, con20, con21, con22, con19, con23, con25, con29, con24, con_true (by kernel_rfl) lives_o, con16, trivial⟩
theorem con17 : ConOk Try.prog 17 ⟨[(.tmp 0 false [(.dat (.list (.pair (.int .u8) (.list (.int .u8)))))])], [(.tmp 0 true [(.dat (.list (.int .u8))), (.dat (.int .i64)), (.dat (.int .i64))]), (.tmp 1 false [(.dat (.list (.int .i64)))]), (.tmp 2 false [(.dat .bool)])], dialtonelaw20_write⟩ :=
  tree_ok (plan := planOf plan17) (eg := egNo) KK tabL_ok (conOf_ok cons17_ok) Try.func17 (by kernel_rfl) (by kernel_rfl) 10000 (fun a r h => Eq.trans (show _ = dialtonelaw20_write a from by kernel_rfl) h)
/-! ### dialtone/dialtonelaw20.JournalScans -/
def plan7 : List (Nat × PL) := []
noncomputable def dialtonelaw20_JournalScans : (List Int) → Option Bool := fun a1 =>
  bif (decide ((((List.length a1) : Nat) : Int) > (20000 : Int))) then
   some Bool.true
  else
   bindO (journal_Scan a1) fun (x4, (x5, x6)) =>
   bindO (dialtoneref20_Scan a1) fun (x8, (x9, x10)) =>
   bindO (journal_Recover a1) fun ((x12, (x13, x14)), x15) =>
   bindO (dialtoneref20_Recover a1) fun ((x17, (x18, x19)), x20) =>
   bindO (dialtoneref20_Same (x4, x8)) fun x21 =>
   bif x21 then
    bif (decide (x5 = x9)) then
     bif (decide (x6 = x10)) then
      bindO (dialtoneref20_SameLog ((x12, (x13, x14)), (x17, (x18, x19)))) fun x22 =>
      bif x22 then
       bindO (dialtoneref20_Same (x15, x20)) fun x23 =>
       bif x23 then
        some Bool.true
       else
        some Bool.false
      else
       some Bool.false
     else
      some Bool.false
    else
     some Bool.false
   else
    some Bool.false
noncomputable def cons7 : List (Nat × CE) := [(14, ⟨[(.tmp 0 false [(.dat (.list (.int .u8)))])], [(.tmp 0 false [(.dat (.int .u32))])], journal_Check⟩), (15, ⟨[(.tmp 0 false [(.dat (.list (.int .u8)))])], [(.tmp 0 false [(.dat (.int .u32))])], dialtoneref20_Check⟩), (34, ⟨[(.tmp 0 false [(.dat (.int .i64))]), (.tmp 1 false [(.dat (.int .i64))])], [(.tmp 0 false [(.dat (.list (.int .u8)))])], dialtoneref20_number⟩), (12, ⟨[(.tmp 0 false [(.dat (.int .i64))]), (.tmp 1 true [(.dat (.int .u8)), (.dat (.list (.int .u8)))])], [(.tmp 0 false [(.dat (.list (.int .u8)))]), (.tmp 1 false [(.dat (.int .u8))])], journal_Encode⟩), (13, ⟨[(.tmp 0 false [(.dat (.int .i64))]), (.tmp 1 true [(.dat (.int .u8)), (.dat (.list (.int .u8)))])], [(.tmp 0 false [(.dat (.list (.int .u8)))]), (.tmp 1 false [(.dat (.int .u8))])], dialtoneref20_Encode⟩), (39, ⟨[(.tmp 0 false [(.dat (.list (.int .u8)))]), (.tmp 1 false [(.dat (.int .i64))])], [(.tmp 0 false [(.dat .bool)])], journal_begins⟩), (40, ⟨[(.tmp 0 false [(.dat (.list (.int .u8)))]), (.tmp 1 false [(.dat (.int .i64))])], [(.tmp 0 false [(.dat .bool)])], dialtoneref20_wrong⟩), (37, ⟨[(.tmp 0 false [(.dat (.list (.int .u8)))]), (.tmp 1 false [(.dat (.list (.int .u8)))])], [(.tmp 0 false [(.dat (.list (.int .u8)))])], journal_joined⟩), (38, ⟨[(.tmp 0 false [(.dat (.list (.int .u8)))])], [(.tmp 0 false [(.dat (.list (.int .u8)))])], dialtoneref20_copied⟩), (27, ⟨[(.tmp 0 true [(.dat (.list (.int .u8))), (.dat (.int .i64)), (.dat (.int .i64))])], [(.tmp 0 false [(.dat .bool)])], journal_Valid⟩), (28, ⟨[(.tmp 0 true [(.dat (.list (.int .u8))), (.dat (.int .i64)), (.dat (.int .i64))])], [(.tmp 0 false [(.dat .bool)])], dialtoneref20_Valid⟩), (36, ⟨[(.tmp 0 false [(.dat (.list (.int .u8)))]), (.tmp 1 false [(.dat (.int .i64))])], [(.tmp 0 true [(.dat (.int .u8)), (.dat (.list (.int .u8)))]), (.tmp 1 false [(.dat (.int .i64))]), (.tmp 2 false [(.dat (.int .u8))])], dialtoneref20_One⟩), (18, ⟨[(.tmp 0 false [(.dat (.list (.int .u8)))])], [(.tmp 0 false [(.dat (.list (.pair (.int .u8) (.list (.int .u8)))))]), (.tmp 1 false [(.dat (.int .i64))]), (.tmp 2 false [(.dat (.int .u8))])], journal_Scan⟩), (20, ⟨[(.tmp 0 false [(.dat (.list (.int .u8)))])], [(.tmp 0 false [(.dat (.list (.pair (.int .u8) (.list (.int .u8)))))]), (.tmp 1 false [(.dat (.int .i64))]), (.tmp 2 false [(.dat (.int .u8))])], dialtoneref20_Scan⟩), (21, ⟨[(.tmp 0 false [(.dat (.list (.int .u8)))])], [(.tmp 0 true [(.dat (.list (.int .u8))), (.dat (.int .i64)), (.dat (.int .i64))]), (.tmp 1 false [(.dat (.list (.pair (.int .u8) (.list (.int .u8)))))])], journal_Recover⟩), (22, ⟨[(.tmp 0 false [(.dat (.list (.int .u8)))])], [(.tmp 0 true [(.dat (.list (.int .u8))), (.dat (.int .i64)), (.dat (.int .i64))]), (.tmp 1 false [(.dat (.list (.pair (.int .u8) (.list (.int .u8)))))])], dialtoneref20_Recover⟩), (19, ⟨[(.tmp 0 false [(.dat (.list (.pair (.int .u8) (.list (.int .u8)))))]), (.tmp 1 false [(.dat (.list (.pair (.int .u8) (.list (.int .u8)))))])], [(.tmp 0 false [(.dat .bool)])], dialtoneref20_Same⟩), (23, ⟨[(.tmp 0 true [(.dat (.list (.int .u8))), (.dat (.int .i64)), (.dat (.int .i64))]), (.tmp 1 true [(.dat (.list (.int .u8))), (.dat (.int .i64)), (.dat (.int .i64))])], [(.tmp 0 false [(.dat .bool)])], dialtoneref20_SameLog⟩), (25, ⟨[(.tmp 0 true [(.dat (.list (.int .u8))), (.dat (.int .i64)), (.dat (.int .i64))]), (.tmp 1 true [(.dat (.int .u8)), (.dat (.list (.int .u8)))])], [(.tmp 0 true [(.dat (.list (.int .u8))), (.dat (.int .i64)), (.dat (.int .i64))]), (.tmp 1 false [(.dat (.int .u8))])], journal_Append⟩), (29, ⟨[(.tmp 0 true [(.dat (.list (.int .u8))), (.dat (.int .i64)), (.dat (.int .i64))])], [(.tmp 0 true [(.dat (.list (.int .u8))), (.dat (.int .i64)), (.dat (.int .i64))])], journal_Sync⟩), (24, ⟨[(.tmp 0 true [(.dat (.list (.int .u8))), (.dat (.int .i64)), (.dat (.int .i64))]), (.tmp 1 false [(.dat (.int .i64))])], [(.tmp 0 false [(.dat (.list (.int .u8)))])], journal_Crash⟩), (11, ⟨[], riB, (fun _ => some true)⟩), (16, ⟨[(.tmp 0 false [(.dat (.list (.pair (.int .u8) (.list (.int .u8)))))])], [(.tmp 0 false [(.dat (.list (.pair (.int .u8) (.list (.int .u8)))))])], dialtonelaw20_few⟩), (17, ⟨[(.tmp 0 false [(.dat (.list (.pair (.int .u8) (.list (.int .u8)))))])], [(.tmp 0 true [(.dat (.list (.int .u8))), (.dat (.int .i64)), (.dat (.int .i64))]), (.tmp 1 false [(.dat (.list (.int .i64)))]), (.tmp 2 false [(.dat .bool)])], dialtonelaw20_write⟩)]
theorem cons7_ok : ConL Try.prog cons7 := ⟨con14, con15, con34, con12, con13, con39, con40, con37, con38, con27, con28, con36, con18, con20, con21, con22, con19, con23, con25, con29, con24, con_true (by kernel_rfl) lives_o, con16, con17, trivial⟩
theorem con7 : ConOk Try.prog 7 ⟨[(.tmp 0 false [(.dat (.list (.int .u8)))])], [(.tmp 0 false [(.dat .bool)])], dialtonelaw20_JournalScans⟩ :=
  tree_ok (plan := planOf plan7) (eg := egNo) KK tabL_ok (conOf_ok cons7_ok) Try.func7 (by kernel_rfl) (by kernel_rfl) 10000 (fun a r h => Eq.trans (show _ = dialtonelaw20_JournalScans a from by kernel_rfl) h)
/-! ### dialtone/dialtonelaw20.JournalCuts -/
def plan4 : List (Nat × PL) := [(9241421688590303745, (.carry [.tmp 9 false [(.dat (.int .i64))], .tmp 10 false [(.dat (.int .i64))]])), (2422583247133816584669190, (.carry [.tmp 9 false [(.dat (.int .i64))], .tmp 10 false [(.dat (.int .i64))]]))]
noncomputable def dialtonelaw20_JournalCuts : ((List (Int × (List Int))) × Int) → Option Bool := fun (a1, a2) =>
  bindO (dialtonelaw20_few a1) fun x3 =>
  bindO (dialtonelaw20_write x3) fun ((x5, (x6, x7)), (x8, x9)) =>
  bif (!x9) then
   some Bool.false
  else
   bindO (some (Go.IntKind.wrap .i64 ((((List.length x5) : Nat) : Int) + (1 : Int)))) fun x11 =>
   bif (decide (x11 ≠ (0 : Int))) then 
    bindO (some (Int.tmod (Go.IntKind.wrap .i64 a2) x11)) fun x12 =>
    joinO (loopO (fun (v13, v14) =>
      bif (decide (v13 < (((List.length x8) : Nat) : Int))) then
       bif (decide (((0 : Int) ≤ v13) ∧ (v13 < (((List.length x8) : Nat) : Int)))) then 
        bindO x8[(Int.toNat v13)]? fun x15 =>
        bif (decide (x15 ≤ x12)) then
         bif (decide (((0 : Int) ≤ v13) ∧ (v13 < (((List.length x8) : Nat) : Int)))) then 
          bindO x8[(Int.toNat v13)]? fun x16 =>
          some (Sum.inl ((Go.IntKind.wrap .i64 (v13 + (1 : Int))), x16))
         else none
        else
         outO (some (Sum.inl (v13, v14)))
       else none
      else
       outO (some (Sum.inl (v13, v14)))) ((0 : Int), (0 : Int))) fun (v18, v19) =>
    bif (decide (((0 : Int) ≤ x12) ∧ (x12 ≤ (((List.length x5) : Nat) : Int)))) then 
     bindO (journal_Scan (List.take (Int.toNat x12) x5)) fun (x22, (x23, x24)) =>
     bif (decide (x23 ≠ v19)) then
      some Bool.false
     else
      bif (decide (((0 : Int) ≤ v18) ∧ (v18 ≤ (((List.length x3) : Nat) : Int)))) then 
       bindO (dialtoneref20_Same ((List.take (Int.toNat v18) x3), x22)) fun x26 =>
       bif (!x26) then
        some Bool.false
       else
        bif ((decide (x24 = (0 : Int))) == (decide (v19 = x12))) then
         bif (decide (x24 = (0 : Int))) then
          some Bool.true
         else
          bif (decide (x24 = (6 : Int))) then
           some Bool.true
          else
           some Bool.false
        else
         some Bool.false
      else none
    else none
   else none
noncomputable def cons4 : List (Nat × CE) := [(14, ⟨[(.tmp 0 false [(.dat (.list (.int .u8)))])], [(.tmp 0 false [(.dat (.int .u32))])], journal_Check⟩), (15, ⟨[(.tmp 0 false [(.dat (.list (.int .u8)))])], [(.tmp 0 false [(.dat (.int .u32))])], dialtoneref20_Check⟩), (34, ⟨[(.tmp 0 false [(.dat (.int .i64))]), (.tmp 1 false [(.dat (.int .i64))])], [(.tmp 0 false [(.dat (.list (.int .u8)))])], dialtoneref20_number⟩), (12, ⟨[(.tmp 0 false [(.dat (.int .i64))]), (.tmp 1 true [(.dat (.int .u8)), (.dat (.list (.int .u8)))])], [(.tmp 0 false [(.dat (.list (.int .u8)))]), (.tmp 1 false [(.dat (.int .u8))])], journal_Encode⟩), (13, ⟨[(.tmp 0 false [(.dat (.int .i64))]), (.tmp 1 true [(.dat (.int .u8)), (.dat (.list (.int .u8)))])], [(.tmp 0 false [(.dat (.list (.int .u8)))]), (.tmp 1 false [(.dat (.int .u8))])], dialtoneref20_Encode⟩), (39, ⟨[(.tmp 0 false [(.dat (.list (.int .u8)))]), (.tmp 1 false [(.dat (.int .i64))])], [(.tmp 0 false [(.dat .bool)])], journal_begins⟩), (40, ⟨[(.tmp 0 false [(.dat (.list (.int .u8)))]), (.tmp 1 false [(.dat (.int .i64))])], [(.tmp 0 false [(.dat .bool)])], dialtoneref20_wrong⟩), (37, ⟨[(.tmp 0 false [(.dat (.list (.int .u8)))]), (.tmp 1 false [(.dat (.list (.int .u8)))])], [(.tmp 0 false [(.dat (.list (.int .u8)))])], journal_joined⟩), (38, ⟨[(.tmp 0 false [(.dat (.list (.int .u8)))])], [(.tmp 0 false [(.dat (.list (.int .u8)))])], dialtoneref20_copied⟩), (27, ⟨[(.tmp 0 true [(.dat (.list (.int .u8))), (.dat (.int .i64)), (.dat (.int .i64))])], [(.tmp 0 false [(.dat .bool)])], journal_Valid⟩), (28, ⟨[(.tmp 0 true [(.dat (.list (.int .u8))), (.dat (.int .i64)), (.dat (.int .i64))])], [(.tmp 0 false [(.dat .bool)])], dialtoneref20_Valid⟩), (36, ⟨[(.tmp 0 false [(.dat (.list (.int .u8)))]), (.tmp 1 false [(.dat (.int .i64))])], [(.tmp 0 true [(.dat (.int .u8)), (.dat (.list (.int .u8)))]), (.tmp 1 false [(.dat (.int .i64))]), (.tmp 2 false [(.dat (.int .u8))])], dialtoneref20_One⟩), (18, ⟨[(.tmp 0 false [(.dat (.list (.int .u8)))])], [(.tmp 0 false [(.dat (.list (.pair (.int .u8) (.list (.int .u8)))))]), (.tmp 1 false [(.dat (.int .i64))]), (.tmp 2 false [(.dat (.int .u8))])], journal_Scan⟩), (20, ⟨[(.tmp 0 false [(.dat (.list (.int .u8)))])], [(.tmp 0 false [(.dat (.list (.pair (.int .u8) (.list (.int .u8)))))]), (.tmp 1 false [(.dat (.int .i64))]), (.tmp 2 false [(.dat (.int .u8))])], dialtoneref20_Scan⟩), (21, ⟨[(.tmp 0 false [(.dat (.list (.int .u8)))])], [(.tmp 0 true [(.dat (.list (.int .u8))), (.dat (.int .i64)), (.dat (.int .i64))]), (.tmp 1 false [(.dat (.list (.pair (.int .u8) (.list (.int .u8)))))])], journal_Recover⟩), (22, ⟨[(.tmp 0 false [(.dat (.list (.int .u8)))])], [(.tmp 0 true [(.dat (.list (.int .u8))), (.dat (.int .i64)), (.dat (.int .i64))]), (.tmp 1 false [(.dat (.list (.pair (.int .u8) (.list (.int .u8)))))])], dialtoneref20_Recover⟩), (19, ⟨[(.tmp 0 false [(.dat (.list (.pair (.int .u8) (.list (.int .u8)))))]), (.tmp 1 false [(.dat (.list (.pair (.int .u8) (.list (.int .u8)))))])], [(.tmp 0 false [(.dat .bool)])], dialtoneref20_Same⟩), (23, ⟨[(.tmp 0 true [(.dat (.list (.int .u8))), (.dat (.int .i64)), (.dat (.int .i64))]), (.tmp 1 true [(.dat (.list (.int .u8))), (.dat (.int .i64)), (.dat (.int .i64))])], [(.tmp 0 false [(.dat .bool)])], dialtoneref20_SameLog⟩), (25, ⟨[(.tmp 0 true [(.dat (.list (.int .u8))), (.dat (.int .i64)), (.dat (.int .i64))]), (.tmp 1 true [(.dat (.int .u8)), (.dat (.list (.int .u8)))])], [(.tmp 0 true [(.dat (.list (.int .u8))), (.dat (.int .i64)), (.dat (.int .i64))]), (.tmp 1 false [(.dat (.int .u8))])], journal_Append⟩), (29, ⟨[(.tmp 0 true [(.dat (.list (.int .u8))), (.dat (.int .i64)), (.dat (.int .i64))])], [(.tmp 0 true [(.dat (.list (.int .u8))), (.dat (.int .i64)), (.dat (.int .i64))])], journal_Sync⟩), (24, ⟨[(.tmp 0 true [(.dat (.list (.int .u8))), (.dat (.int .i64)), (.dat (.int .i64))]), (.tmp 1 false [(.dat (.int .i64))])], [(.tmp 0 false [(.dat (.list (.int .u8)))])], journal_Crash⟩), (11, ⟨[], riB, (fun _ => some true)⟩), (16, ⟨[(.tmp 0 false [(.dat (.list (.pair (.int .u8) (.list (.int .u8)))))])], [(.tmp 0 false [(.dat (.list (.pair (.int .u8) (.list (.int .u8)))))])], dialtonelaw20_few⟩), (17, ⟨[(.tmp 0 false [(.dat (.list (.pair (.int .u8) (.list (.int .u8)))))])], [(.tmp 0 true [(.dat (.list (.int .u8))), (.dat (.int .i64)), (.dat (.int .i64))]), (.tmp 1 false [(.dat (.list (.int .i64)))]), (.tmp 2 false [(.dat .bool)])], dialtonelaw20_write⟩), (7, ⟨[(.tmp 0 false [(.dat (.list (.int .u8)))])], [(.tmp 0 false [(.dat .bool)])], dialtonelaw20_JournalScans⟩)]
theorem cons4_ok : ConL Try.prog cons4 := ⟨con14, con15, con34, con12, con13, con39, con40, con37, con38, con27, con28, con36, con18, con20, con21, con22, con19, con23, con25, con29, con24, con_true (by kernel_rfl) lives_o, con16, con17, con7, trivial⟩
theorem con4 : ConOk Try.prog 4 ⟨[(.tmp 0 false [(.dat (.list (.pair (.int .u8) (.list (.int .u8)))))]), (.tmp 1 false [(.dat (.int .u16))])], [(.tmp 0 false [(.dat .bool)])], dialtonelaw20_JournalCuts⟩ :=
  tree_ok (plan := planOf plan4) (eg := egNo) KK tabL_ok (conOf_ok cons4_ok) Try.func4 (by kernel_rfl) (by kernel_rfl) 10000 (fun a r h => Eq.trans (show _ = dialtonelaw20_JournalCuts a from by kernel_rfl) h)
/-! ### dialtone/dialtonelaw20.JournalBits -/
def plan5 : List (Nat × PL) := [(635065662736647214839835656705, (.carry [.tmp 10 false [(.dat (.int .i64))]])), (166478653092435647486973878391015430, (.carry [.tmp 10 false [(.dat (.int .i64))]])), (85237070383327051513330625736333328897, (.carry [.tmp 14 false [(.dat (.int .i64))]]))]
noncomputable def dialtonelaw20_JournalBits : ((List (Int × (List Int))) × Int) → Option Bool := fun (a1, a2) =>
  bindO (dialtonelaw20_few a1) fun x3 =>
  bindO (dialtonelaw20_write x3) fun ((x5, (x6, x7)), (x8, x9)) =>
  bif (!x9) then
   some Bool.false
  else
   bif (decide ((((List.length x3) : Nat) : Int) = (0 : Int))) then
    some Bool.true
   else
    bindO (some (Go.IntKind.wrap .i64 ((8 : Int) * (((List.length x5) : Nat) : Int)))) fun x12 =>
    bif (decide (x12 ≠ (0 : Int))) then 
     bindO (some (Int.tmod (Go.IntKind.wrap .i64 a2) x12)) fun x13 =>
     bif (decide (((List.length x5) * 1) ≤ 140737488355328)) then 
      bindO (some (Go.IntKind.wrap .i64 (Int.tdiv x13 (8 : Int)))) fun x15 =>
      bindO (some (Go.IntKind.wrap .i64 (Int.tdiv x13 (8 : Int)))) fun x16 =>
      bif (decide (((0 : Int) ≤ x16) ∧ (x16 < (((List.length x5) : Nat) : Int)))) then 
       bindO x5[(Int.toNat x16)]? fun x17 =>
       bindO (some (Int.tmod x13 (8 : Int))) fun x18 =>
       bif (decide ((0 : Int) ≤ x18)) then 
        bindO (some (Go.IntKind.wrap .u8 (((BitVec.toNat ((BitVec.ofInt 8 x17) ^^^ (BitVec.ofInt 8 (Go.IntKind.wrap .u8 ((1 : Int) * ((2 : Int) ^ (Min.min (Int.toNat x18) 8))))))) : Nat) : Int))) fun x20 =>
        bif (decide (((0 : Int) ≤ x15) ∧ (x15 < (((List.length x5) : Nat) : Int)))) then 
         bindO x5[(Int.toNat x15)]? fun x21 =>
         joinO (loopO (fun v22 =>
           bif (decide (((0 : Int) ≤ v22) ∧ (v22 < (((List.length x8) : Nat) : Int)))) then 
            bindO x8[(Int.toNat v22)]? fun x23 =>
            bif (decide (x23 ≤ (Go.IntKind.wrap .i64 (Int.tdiv x13 (8 : Int))))) then
             some (Sum.inl (Go.IntKind.wrap .i64 (v22 + (1 : Int))))
            else
             outO (some (Sum.inl v22))
           else none) (0 : Int)) fun v26 =>
         bif (decide ((List.length x5) ≤ (List.length (List.set x5 (Int.toNat x15) x20)))) then 
          bindO (journal_Scan (List.take (List.length x5) (List.set x5 (Int.toNat x15) x20))) fun (x28, (x29, x30)) =>
          joinO (bif (decide (v26 > (0 : Int))) then
            bindO (some (Go.IntKind.wrap .i64 (v26 - (1 : Int)))) fun x31 =>
            bif (decide (((0 : Int) ≤ x31) ∧ (x31 < (((List.length x8) : Nat) : Int)))) then 
             bindO x8[(Int.toNat x31)]? fun x32 =>
             some (Sum.inl x32)
            else none
           else
            some (Sum.inl (0 : Int))) fun v33 =>
          bif (decide (x29 = v33)) then
           bif (decide (((0 : Int) ≤ v26) ∧ (v26 ≤ (((List.length x3) : Nat) : Int)))) then 
            bindO (dialtoneref20_Same ((List.take (Int.toNat v26) x3), x28)) fun x35 =>
            bif x35 then
             bif (decide (x30 = (5 : Int))) then
              some Bool.true
             else
              bif (decide (x30 = (11 : Int))) then
               some Bool.true
              else
               some Bool.false
            else
             some Bool.false
           else none
          else
           some Bool.false
         else none
        else none
       else none
      else none
     else none
    else none
noncomputable def cons5 : List (Nat × CE) := [(14, ⟨[(.tmp 0 false [(.dat (.list (.int .u8)))])], [(.tmp 0 false [(.dat (.int .u32))])], journal_Check⟩), (15, ⟨[(.tmp 0 false [(.dat (.list (.int .u8)))])], [(.tmp 0 false [(.dat (.int .u32))])], dialtoneref20_Check⟩), (34, ⟨[(.tmp 0 false [(.dat (.int .i64))]), (.tmp 1 false [(.dat (.int .i64))])], [(.tmp 0 false [(.dat (.list (.int .u8)))])], dialtoneref20_number⟩), (12, ⟨[(.tmp 0 false [(.dat (.int .i64))]), (.tmp 1 true [(.dat (.int .u8)), (.dat (.list (.int .u8)))])], [(.tmp 0 false [(.dat (.list (.int .u8)))]), (.tmp 1 false [(.dat (.int .u8))])], journal_Encode⟩), (13, ⟨[(.tmp 0 false [(.dat (.int .i64))]), (.tmp 1 true [(.dat (.int .u8)), (.dat (.list (.int .u8)))])], [(.tmp 0 false [(.dat (.list (.int .u8)))]), (.tmp 1 false [(.dat (.int .u8))])], dialtoneref20_Encode⟩), (39, ⟨[(.tmp 0 false [(.dat (.list (.int .u8)))]), (.tmp 1 false [(.dat (.int .i64))])], [(.tmp 0 false [(.dat .bool)])], journal_begins⟩), (40, ⟨[(.tmp 0 false [(.dat (.list (.int .u8)))]), (.tmp 1 false [(.dat (.int .i64))])], [(.tmp 0 false [(.dat .bool)])], dialtoneref20_wrong⟩), (37, ⟨[(.tmp 0 false [(.dat (.list (.int .u8)))]), (.tmp 1 false [(.dat (.list (.int .u8)))])], [(.tmp 0 false [(.dat (.list (.int .u8)))])], journal_joined⟩), (38, ⟨[(.tmp 0 false [(.dat (.list (.int .u8)))])], [(.tmp 0 false [(.dat (.list (.int .u8)))])], dialtoneref20_copied⟩), (27, ⟨[(.tmp 0 true [(.dat (.list (.int .u8))), (.dat (.int .i64)), (.dat (.int .i64))])], [(.tmp 0 false [(.dat .bool)])], journal_Valid⟩), (28, ⟨[(.tmp 0 true [(.dat (.list (.int .u8))), (.dat (.int .i64)), (.dat (.int .i64))])], [(.tmp 0 false [(.dat .bool)])], dialtoneref20_Valid⟩), (36, ⟨[(.tmp 0 false [(.dat (.list (.int .u8)))]), (.tmp 1 false [(.dat (.int .i64))])], [(.tmp 0 true [(.dat (.int .u8)), (.dat (.list (.int .u8)))]), (.tmp 1 false [(.dat (.int .i64))]), (.tmp 2 false [(.dat (.int .u8))])], dialtoneref20_One⟩), (18, ⟨[(.tmp 0 false [(.dat (.list (.int .u8)))])], [(.tmp 0 false [(.dat (.list (.pair (.int .u8) (.list (.int .u8)))))]), (.tmp 1 false [(.dat (.int .i64))]), (.tmp 2 false [(.dat (.int .u8))])], journal_Scan⟩), (20, ⟨[(.tmp 0 false [(.dat (.list (.int .u8)))])], [(.tmp 0 false [(.dat (.list (.pair (.int .u8) (.list (.int .u8)))))]), (.tmp 1 false [(.dat (.int .i64))]), (.tmp 2 false [(.dat (.int .u8))])], dialtoneref20_Scan⟩), (21, ⟨[(.tmp 0 false [(.dat (.list (.int .u8)))])], [(.tmp 0 true [(.dat (.list (.int .u8))), (.dat (.int .i64)), (.dat (.int .i64))]), (.tmp 1 false [(.dat (.list (.pair (.int .u8) (.list (.int .u8)))))])], journal_Recover⟩), (22, ⟨[(.tmp 0 false [(.dat (.list (.int .u8)))])], [(.tmp 0 true [(.dat (.list (.int .u8))), (.dat (.int .i64)), (.dat (.int .i64))]), (.tmp 1 false [(.dat (.list (.pair (.int .u8) (.list (.int .u8)))))])], dialtoneref20_Recover⟩), (19, ⟨[(.tmp 0 false [(.dat (.list (.pair (.int .u8) (.list (.int .u8)))))]), (.tmp 1 false [(.dat (.list (.pair (.int .u8) (.list (.int .u8)))))])], [(.tmp 0 false [(.dat .bool)])], dialtoneref20_Same⟩), (23, ⟨[(.tmp 0 true [(.dat (.list (.int .u8))), (.dat (.int .i64)), (.dat (.int .i64))]), (.tmp 1 true [(.dat (.list (.int .u8))), (.dat (.int .i64)), (.dat (.int .i64))])], [(.tmp 0 false [(.dat .bool)])], dialtoneref20_SameLog⟩), (25, ⟨[(.tmp 0 true [(.dat (.list (.int .u8))), (.dat (.int .i64)), (.dat (.int .i64))]), (.tmp 1 true [(.dat (.int .u8)), (.dat (.list (.int .u8)))])], [(.tmp 0 true [(.dat (.list (.int .u8))), (.dat (.int .i64)), (.dat (.int .i64))]), (.tmp 1 false [(.dat (.int .u8))])], journal_Append⟩), (29, ⟨[(.tmp 0 true [(.dat (.list (.int .u8))), (.dat (.int .i64)), (.dat (.int .i64))])], [(.tmp 0 true [(.dat (.list (.int .u8))), (.dat (.int .i64)), (.dat (.int .i64))])], journal_Sync⟩), (24, ⟨[(.tmp 0 true [(.dat (.list (.int .u8))), (.dat (.int .i64)), (.dat (.int .i64))]), (.tmp 1 false [(.dat (.int .i64))])], [(.tmp 0 false [(.dat (.list (.int .u8)))])], journal_Crash⟩), (11, ⟨[], riB, (fun _ => some true)⟩), (16, ⟨[(.tmp 0 false [(.dat (.list (.pair (.int .u8) (.list (.int .u8)))))])], [(.tmp 0 false [(.dat (.list (.pair (.int .u8) (.list (.int .u8)))))])], dialtonelaw20_few⟩), (17, ⟨[(.tmp 0 false [(.dat (.list (.pair (.int .u8) (.list (.int .u8)))))])], [(.tmp 0 true [(.dat (.list (.int .u8))), (.dat (.int .i64)), (.dat (.int .i64))]), (.tmp 1 false [(.dat (.list (.int .i64)))]), (.tmp 2 false [(.dat .bool)])], dialtonelaw20_write⟩), (7, ⟨[(.tmp 0 false [(.dat (.list (.int .u8)))])], [(.tmp 0 false [(.dat .bool)])], dialtonelaw20_JournalScans⟩), (4, ⟨[(.tmp 0 false [(.dat (.list (.pair (.int .u8) (.list (.int .u8)))))]), (.tmp 1 false [(.dat (.int .u16))])], [(.tmp 0 false [(.dat .bool)])], dialtonelaw20_JournalCuts⟩)]
theorem cons5_ok : ConL Try.prog cons5 := ⟨con14, con15, con34, con12, con13, con39, con40, con37, con38, con27, con28, con36, con18, con20, con21, con22, con19, con23, con25, con29, con24, con_true (by kernel_rfl) lives_o, con16, con17, con7, con4, trivial⟩
theorem con5 : ConOk Try.prog 5 ⟨[(.tmp 0 false [(.dat (.list (.pair (.int .u8) (.list (.int .u8)))))]), (.tmp 1 false [(.dat (.int .u16))])], [(.tmp 0 false [(.dat .bool)])], dialtonelaw20_JournalBits⟩ :=
  tree_ok (plan := planOf plan5) (eg := egNo) KK tabL_ok (conOf_ok cons5_ok) Try.func5 (by kernel_rfl) (by kernel_rfl) 10000 (fun a r h => Eq.trans (show _ = dialtonelaw20_JournalBits a from by kernel_rfl) h)
/-! ### dialtone/dialtonelaw20.JournalBursts -/
def plan6 : List (Nat × PL) := [(325153619321163373997995856232961, (.carry [.tmp 16 false [(.dat .bool)], .row 63 5 (.int .u8)])), (43641380036263450374825280377002530179078, (.carry [.tmp 17 false [(.dat (.int .i64))], .tmp 16 false [(.dat .bool)], .row 63 5 (.int .u8)]))]
noncomputable def dialtonelaw20_JournalBursts : ((List (Int × (List Int))) × (Int × (Int × Int))) → Option Bool := fun (a1, (a2, (a3, a4))) =>
  bindO (dialtonelaw20_few a1) fun x5 =>
  bindO (dialtonelaw20_write x5) fun ((x7, (x8, x9)), (x10, x11)) =>
  bif (!x11) then
   some Bool.false
  else
   bif (decide ((((List.length x5) : Nat) : Int) = (0 : Int))) then
    some Bool.true
   else
    bif (decide ((((List.length x5) : Nat) : Int) ≠ (0 : Int))) then 
     bindO (some (Int.tmod (Go.IntKind.wrap .i64 a2) (((List.length x5) : Nat) : Int))) fun x14 =>
     bif (decide (((0 : Int) ≤ x14) ∧ (x14 < (((List.length x5) : Nat) : Int)))) then 
      bindO x5[(Int.toNat x14)]? fun x15 =>
      bif (decide ((((List.length x15.2) : Nat) : Int) = (0 : Int))) then
       some Bool.true
      else
       bif (decide ((((List.length x5) : Nat) : Int) ≠ (0 : Int))) then 
        bindO (some (Int.tmod (Go.IntKind.wrap .i64 a2) (((List.length x5) : Nat) : Int))) fun x18 =>
        bif (decide (((0 : Int) ≤ x18) ∧ (x18 < (((List.length x5) : Nat) : Int)))) then 
         bindO x5[(Int.toNat x18)]? fun x19 =>
         bindO (some (Go.IntKind.wrap .i64 ((8 : Int) * (((List.length x19.2) : Nat) : Int)))) fun x20 =>
         bif (decide (((0 : Int) ≤ x18) ∧ (x18 < (((List.length x10) : Nat) : Int)))) then 
          bindO x10[(Int.toNat x18)]? fun x21 =>
          bif (decide (((0 : Int) ≤ x18) ∧ (x18 < (((List.length x5) : Nat) : Int)))) then 
           bindO x5[(Int.toNat x18)]? fun x23 =>
           bindO (some (Go.IntKind.wrap .i64 ((Go.IntKind.wrap .i64 (x21 - (4 : Int))) - (((List.length x23.2) : Nat) : Int)))) fun x24 =>
           bif (decide (((List.length x7) * 1) ≤ 140737488355328)) then 
            joinO (loopO (fun (v26, (v27, v28)) =>
              bif (decide (v26 < (32 : Int))) then
               bif (decide (x20 ≠ (0 : Int))) then 
                bindO (some (Go.IntKind.wrap .i64 ((Int.tmod (Go.IntKind.wrap .i64 a3) x20) + v26))) fun x31 =>
                bif (decide ((0 : Int) ≤ v26)) then 
                 bif (decide ((Go.IntKind.wrap .u32 (((BitVec.toNat ((BitVec.ofInt 32 (Int.fdiv a4 ((2 : Int) ^ (Min.min (Int.toNat v26) 32)))) &&& (BitVec.ofInt 32 (1 : Int)))) : Nat) : Int)) = (1 : Int))) then
                  bif (decide (x31 < x20)) then
                   bindO (some (Go.IntKind.wrap .i64 (x24 + (Go.IntKind.wrap .i64 (Int.tdiv x31 (8 : Int)))))) fun x35 =>
                   bindO (some (Go.IntKind.wrap .i64 (x24 + (Go.IntKind.wrap .i64 (Int.tdiv x31 (8 : Int)))))) fun x37 =>
                   bif (decide (((0 : Int) ≤ x37) ∧ (x37 < (((List.length x7) : Nat) : Int)))) then 
                    bindO v28[(Int.toNat x37)]? fun x38 =>
                    bindO (some (Int.tmod x31 (8 : Int))) fun x39 =>
                    bif (decide ((0 : Int) ≤ x39)) then 
                     bif (decide (((0 : Int) ≤ x35) ∧ (x35 < (((List.length x7) : Nat) : Int)))) then 
                      bindO v28[(Int.toNat x35)]? fun x42 =>
                      some (Sum.inl ((Go.IntKind.wrap .i64 (v26 + (1 : Int))), (Bool.true, (List.set v28 (Int.toNat x35) (Go.IntKind.wrap .u8 (((BitVec.toNat ((BitVec.ofInt 8 x38) ^^^ (BitVec.ofInt 8 (Go.IntKind.wrap .u8 ((1 : Int) * ((2 : Int) ^ (Min.min (Int.toNat x39) 8))))))) : Nat) : Int))))))
                     else none
                    else none
                   else none
                  else
                   some (Sum.inl ((Go.IntKind.wrap .i64 (v26 + (1 : Int))), (v27, v28)))
                 else
                  some (Sum.inl ((Go.IntKind.wrap .i64 (v26 + (1 : Int))), (v27, v28)))
                else none
               else none
              else
               outO (some (Sum.inl (v27, v28)))) ((0 : Int), (Bool.false, x7))) fun (v46, v47) =>
            bif (decide ((List.length x7) ≤ (List.length v47))) then 
             bindO (journal_Scan (List.take (List.length x7) v47)) fun (x49, (x50, x51)) =>
             bif (!v46) then
              bif (decide (x51 = (0 : Int))) then
               some Bool.true
              else
               some Bool.false
             else
              bif (decide (x51 = (11 : Int))) then
               bif (decide (((0 : Int) ≤ x18) ∧ (x18 < (((List.length x10) : Nat) : Int)))) then 
                bindO x10[(Int.toNat x18)]? fun x53 =>
                bif (decide (((0 : Int) ≤ x18) ∧ (x18 < (((List.length x5) : Nat) : Int)))) then 
                 bindO x5[(Int.toNat x18)]? fun x55 =>
                 bif (decide (x50 = (Go.IntKind.wrap .i64 ((Go.IntKind.wrap .i64 (x53 - (14 : Int))) - (((List.length x55.2) : Nat) : Int))))) then
                  bif (decide (((0 : Int) ≤ x18) ∧ (x18 ≤ (((List.length x5) : Nat) : Int)))) then 
                   bindO (dialtoneref20_Same ((List.take (Int.toNat x18) x5), x49)) fun x58 =>
                   bif x58 then
                    some Bool.true
                   else
                    some Bool.false
                  else none
                 else
                  some Bool.false
                else none
               else none
              else
               some Bool.false
            else none
           else none
          else none
         else none
        else none
       else none
     else none
    else none
noncomputable def cons6 : List (Nat × CE) := [(14, ⟨[(.tmp 0 false [(.dat (.list (.int .u8)))])], [(.tmp 0 false [(.dat (.int .u32))])], journal_Check⟩), (15, ⟨[(.tmp 0 false [(.dat (.list (.int .u8)))])], [(.tmp 0 false [(.dat (.int .u32))])], dialtoneref20_Check⟩), (34, ⟨[(.tmp 0 false [(.dat (.int .i64))]), (.tmp 1 false [(.dat (.int .i64))])], [(.tmp 0 false [(.dat (.list (.int .u8)))])], dialtoneref20_number⟩), (12, ⟨[(.tmp 0 false [(.dat (.int .i64))]), (.tmp 1 true [(.dat (.int .u8)), (.dat (.list (.int .u8)))])], [(.tmp 0 false [(.dat (.list (.int .u8)))]), (.tmp 1 false [(.dat (.int .u8))])], journal_Encode⟩), (13, ⟨[(.tmp 0 false [(.dat (.int .i64))]), (.tmp 1 true [(.dat (.int .u8)), (.dat (.list (.int .u8)))])], [(.tmp 0 false [(.dat (.list (.int .u8)))]), (.tmp 1 false [(.dat (.int .u8))])], dialtoneref20_Encode⟩), (39, ⟨[(.tmp 0 false [(.dat (.list (.int .u8)))]), (.tmp 1 false [(.dat (.int .i64))])], [(.tmp 0 false [(.dat .bool)])], journal_begins⟩), (40, ⟨[(.tmp 0 false [(.dat (.list (.int .u8)))]), (.tmp 1 false [(.dat (.int .i64))])], [(.tmp 0 false [(.dat .bool)])], dialtoneref20_wrong⟩), (37, ⟨[(.tmp 0 false [(.dat (.list (.int .u8)))]), (.tmp 1 false [(.dat (.list (.int .u8)))])], [(.tmp 0 false [(.dat (.list (.int .u8)))])], journal_joined⟩), (38, ⟨[(.tmp 0 false [(.dat (.list (.int .u8)))])], [(.tmp 0 false [(.dat (.list (.int .u8)))])], dialtoneref20_copied⟩), (27, ⟨[(.tmp 0 true [(.dat (.list (.int .u8))), (.dat (.int .i64)), (.dat (.int .i64))])], [(.tmp 0 false [(.dat .bool)])], journal_Valid⟩), (28, ⟨[(.tmp 0 true [(.dat (.list (.int .u8))), (.dat (.int .i64)), (.dat (.int .i64))])], [(.tmp 0 false [(.dat .bool)])], dialtoneref20_Valid⟩), (36, ⟨[(.tmp 0 false [(.dat (.list (.int .u8)))]), (.tmp 1 false [(.dat (.int .i64))])], [(.tmp 0 true [(.dat (.int .u8)), (.dat (.list (.int .u8)))]), (.tmp 1 false [(.dat (.int .i64))]), (.tmp 2 false [(.dat (.int .u8))])], dialtoneref20_One⟩), (18, ⟨[(.tmp 0 false [(.dat (.list (.int .u8)))])], [(.tmp 0 false [(.dat (.list (.pair (.int .u8) (.list (.int .u8)))))]), (.tmp 1 false [(.dat (.int .i64))]), (.tmp 2 false [(.dat (.int .u8))])], journal_Scan⟩), (20, ⟨[(.tmp 0 false [(.dat (.list (.int .u8)))])], [(.tmp 0 false [(.dat (.list (.pair (.int .u8) (.list (.int .u8)))))]), (.tmp 1 false [(.dat (.int .i64))]), (.tmp 2 false [(.dat (.int .u8))])], dialtoneref20_Scan⟩), (21, ⟨[(.tmp 0 false [(.dat (.list (.int .u8)))])], [(.tmp 0 true [(.dat (.list (.int .u8))), (.dat (.int .i64)), (.dat (.int .i64))]), (.tmp 1 false [(.dat (.list (.pair (.int .u8) (.list (.int .u8)))))])], journal_Recover⟩), (22, ⟨[(.tmp 0 false [(.dat (.list (.int .u8)))])], [(.tmp 0 true [(.dat (.list (.int .u8))), (.dat (.int .i64)), (.dat (.int .i64))]), (.tmp 1 false [(.dat (.list (.pair (.int .u8) (.list (.int .u8)))))])], dialtoneref20_Recover⟩), (19, ⟨[(.tmp 0 false [(.dat (.list (.pair (.int .u8) (.list (.int .u8)))))]), (.tmp 1 false [(.dat (.list (.pair (.int .u8) (.list (.int .u8)))))])], [(.tmp 0 false [(.dat .bool)])], dialtoneref20_Same⟩), (23, ⟨[(.tmp 0 true [(.dat (.list (.int .u8))), (.dat (.int .i64)), (.dat (.int .i64))]), (.tmp 1 true [(.dat (.list (.int .u8))), (.dat (.int .i64)), (.dat (.int .i64))])], [(.tmp 0 false [(.dat .bool)])], dialtoneref20_SameLog⟩), (25, ⟨[(.tmp 0 true [(.dat (.list (.int .u8))), (.dat (.int .i64)), (.dat (.int .i64))]), (.tmp 1 true [(.dat (.int .u8)), (.dat (.list (.int .u8)))])], [(.tmp 0 true [(.dat (.list (.int .u8))), (.dat (.int .i64)), (.dat (.int .i64))]), (.tmp 1 false [(.dat (.int .u8))])], journal_Append⟩), (29, ⟨[(.tmp 0 true [(.dat (.list (.int .u8))), (.dat (.int .i64)), (.dat (.int .i64))])], [(.tmp 0 true [(.dat (.list (.int .u8))), (.dat (.int .i64)), (.dat (.int .i64))])], journal_Sync⟩), (24, ⟨[(.tmp 0 true [(.dat (.list (.int .u8))), (.dat (.int .i64)), (.dat (.int .i64))]), (.tmp 1 false [(.dat (.int .i64))])], [(.tmp 0 false [(.dat (.list (.int .u8)))])], journal_Crash⟩), (11, ⟨[], riB, (fun _ => some true)⟩), (16, ⟨[(.tmp 0 false [(.dat (.list (.pair (.int .u8) (.list (.int .u8)))))])], [(.tmp 0 false [(.dat (.list (.pair (.int .u8) (.list (.int .u8)))))])], dialtonelaw20_few⟩), (17, ⟨[(.tmp 0 false [(.dat (.list (.pair (.int .u8) (.list (.int .u8)))))])], [(.tmp 0 true [(.dat (.list (.int .u8))), (.dat (.int .i64)), (.dat (.int .i64))]), (.tmp 1 false [(.dat (.list (.int .i64)))]), (.tmp 2 false [(.dat .bool)])], dialtonelaw20_write⟩), (7, ⟨[(.tmp 0 false [(.dat (.list (.int .u8)))])], [(.tmp 0 false [(.dat .bool)])], dialtonelaw20_JournalScans⟩), (4, ⟨[(.tmp 0 false [(.dat (.list (.pair (.int .u8) (.list (.int .u8)))))]), (.tmp 1 false [(.dat (.int .u16))])], [(.tmp 0 false [(.dat .bool)])], dialtonelaw20_JournalCuts⟩), (5, ⟨[(.tmp 0 false [(.dat (.list (.pair (.int .u8) (.list (.int .u8)))))]), (.tmp 1 false [(.dat (.int .u16))])], [(.tmp 0 false [(.dat .bool)])], dialtonelaw20_JournalBits⟩)]
theorem cons6_ok : ConL Try.prog cons6 := ⟨con14, con15, con34, con12, con13, con39, con40, con37, con38, con27, con28, con36, con18, con20, con21, con22, con19, con23, con25, con29, con24, con_true (by kernel_rfl) lives_o, con16, con17, con7, con4, con5, trivial⟩
theorem con6 : ConOk Try.prog 6 ⟨[(.tmp 0 false [(.dat (.list (.pair (.int .u8) (.list (.int .u8)))))]), (.tmp 1 false [(.dat (.int .u16))]), (.tmp 2 false [(.dat (.int .u16))]), (.tmp 3 false [(.dat (.int .u32))])], [(.tmp 0 false [(.dat .bool)])], dialtonelaw20_JournalBursts⟩ :=
  tree_ok (plan := planOf plan6) (eg := egNo) KK tabL_ok (conOf_ok cons6_ok) Try.func6 (by kernel_rfl) (by kernel_rfl) 10000 (fun a r h => Eq.trans (show _ = dialtonelaw20_JournalBursts a from by kernel_rfl) h)
/-! ### dialtone/dialtonelaw20.JournalCrashes -/
def plan10 : List (Nat × PL) := [(35253226045953, (.carry [.tmp 4 false [(.own 10000002 24 (.pair (.int .u8) (.list (.int .u8))))], .drop 5, .mix 1 [(.dat (.list (.int .u8))), (.dat (.int .i64)), (.dat (.int .i64))]])), (4731607904558101301254, (.carry [.tmp 6 false [(.dat (.int .i64))], .tmp 4 false [(.own 10000001 24 (.pair (.int .u8) (.list (.int .u8))))], .tmp 5 false [(.dat (.int .i64))], .mix 1 [(.dat (.list (.int .u8))), (.dat (.int .i64)), (.dat (.int .i64))]]))]
noncomputable def dialtonelaw20_JournalCrashes : (List (Int × ((Int × (List Int)) × Int))) → Option Bool := fun a1 =>
  joinO (loopO (fun (v2, (v3, (v4, (v5, (v6, v7))))) =>
    bif (decide (v2 < (((List.length a1) : Nat) : Int))) then
     bif (decide (v2 < (40 : Int))) then
      bif (decide (((0 : Int) ≤ v2) ∧ (v2 < (((List.length a1) : Nat) : Int)))) then 
       bindO a1[(Int.toNat v2)]? fun x8 =>
       bindO (some (Int.tmod x8.1 (4 : Int))) fun x9 =>
       bif (decide (x9 = (0 : Int))) then
        bindO (journal_Sync (v5, (v6, v7))) fun (x11, (x12, x13)) =>
        bif (decide ((List.length v3) ≤ (List.length v3))) then 
         some (Sum.inl ((Go.IntKind.wrap .i64 (v2 + (1 : Int))), ((List.take (List.length v3) v3), ((((List.length v3) : Nat) : Int), (x11, (x12, x13))))))
        else none
       else
        bif (decide (x9 = (1 : Int))) then
         bif (decide (((0 : Int) ≤ v2) ∧ (v2 < (((List.length a1) : Nat) : Int)))) then 
          bindO a1[(Int.toNat v2)]? fun x15 =>
          bindO (journal_Crash ((v5, (v6, v7)), (Go.IntKind.wrap .i64 x15.2.2))) fun x17 =>
          bindO (journal_Recover x17) fun ((x19, (x20, x21)), x22) =>
          bif (decide ((((List.length x22) : Nat) : Int) < v4)) then
           outO (outO (some Bool.false))
          else
           bif (decide ((((List.length x22) : Nat) : Int) > (((List.length v3) : Nat) : Int))) then
            outO (outO (some Bool.false))
           else
            bif (decide (((0 : Int) ≤ (((List.length x22) : Nat) : Int)) ∧ ((((List.length x22) : Nat) : Int) ≤ (((List.length v3) : Nat) : Int)))) then 
             bif (decide ((Int.toNat (((List.length x22) : Nat) : Int)) ≤ (List.length v3))) then 
              bindO (dialtoneref20_Same (x22, (List.take (Int.toNat (((List.length x22) : Nat) : Int)) v3))) fun x23 =>
              bif (!x23) then
               outO (outO (some Bool.false))
              else
               bif (decide (x21 ≠ (((List.length x22) : Nat) : Int))) then
                outO (outO (some Bool.false))
               else
                bif (decide (x20 ≠ (((List.length x19) : Nat) : Int))) then
                 outO (outO (some Bool.false))
                else
                 bif (decide (((0 : Int) ≤ (((List.length x22) : Nat) : Int)) ∧ ((((List.length x22) : Nat) : Int) ≤ (((List.length v3) : Nat) : Int)))) then 
                  bif (decide ((Int.toNat (((List.length x22) : Nat) : Int)) ≤ (List.length v3))) then 
                   some (Sum.inl ((Go.IntKind.wrap .i64 (v2 + (1 : Int))), ((List.take (Int.toNat (((List.length x22) : Nat) : Int)) v3), ((((List.length x22) : Nat) : Int), (x19, (x20, x21))))))
                  else none
                 else none
             else none
            else none
         else none
        else
         bif (decide (((0 : Int) ≤ v2) ∧ (v2 < (((List.length a1) : Nat) : Int)))) then 
          bindO a1[(Int.toNat v2)]? fun x25 =>
          bif (decide ((((List.length x25.2.1.2) : Nat) : Int) > (200 : Int))) then
           bif (decide ((List.length v3) ≤ (List.length v3))) then 
            some (Sum.inl ((Go.IntKind.wrap .i64 (v2 + (1 : Int))), ((List.take (List.length v3) v3), (v4, (v5, (v6, v7))))))
           else none
          else
           bif (decide (((0 : Int) ≤ v2) ∧ (v2 < (((List.length a1) : Nat) : Int)))) then 
            bindO a1[(Int.toNat v2)]? fun x27 =>
            bindO (journal_Append ((v5, (v6, v7)), (x27.2.1.1, x27.2.1.2))) fun ((x29, (x30, x31)), x32) =>
            bif (decide (x32 ≠ (0 : Int))) then
             outO (outO (some Bool.false))
            else
             bif (decide (((0 : Int) ≤ v2) ∧ (v2 < (((List.length a1) : Nat) : Int)))) then 
              bindO a1[(Int.toNat v2)]? fun x33 =>
              bif (decide ((List.length v3) ≤ (List.length v3))) then 
               bif (decide (((List.length ((List.take (List.length v3) v3) ++ ((x33.2.1.1, x33.2.1.2) :: ([] : List (Int × (List Int)))))) * 32) ≤ 140737488355328)) then 
                bindO (some ((List.take (List.length v3) v3) ++ ((x33.2.1.1, x33.2.1.2) :: ([] : List (Int × (List Int)))))) fun x34 =>
                bif (decide ((List.length x34) ≤ (List.length x34))) then 
                 some (Sum.inl ((Go.IntKind.wrap .i64 (v2 + (1 : Int))), ((List.take (List.length x34) x34), (v4, (x29, (x30, x31))))))
                else none
               else none
              else none
             else none
           else none
         else none
      else none
     else
      outO (bif (decide ((List.length v3) ≤ (List.length v3))) then 
       some (Sum.inl ((List.take (List.length v3) v3), (v5, (v6, v7))))
      else none)
    else
     outO (bif (decide ((List.length v3) ≤ (List.length v3))) then 
      some (Sum.inl ((List.take (List.length v3) v3), (v5, (v6, v7))))
     else none)) ((0 : Int), (([] : List (Int × (List Int))), ((0 : Int), (([] : List Int), ((0 : Int), (0 : Int))))))) fun (v36, (v37, (v38, v39))) =>
  bindO (journal_Scan v37) fun (x41, (x42, x43)) =>
  bif (decide (x43 = (0 : Int))) then
   bif (decide (x42 = (((List.length v37) : Nat) : Int))) then
    bif (decide ((List.length v36) ≤ (List.length v36))) then 
     bindO (dialtoneref20_Same ((List.take (List.length v36) v36), x41)) fun x44 =>
     bif x44 then
      some Bool.true
     else
      some Bool.false
    else none
   else
    some Bool.false
  else
   some Bool.false
noncomputable def cons10 : List (Nat × CE) := [(14, ⟨[(.tmp 0 false [(.dat (.list (.int .u8)))])], [(.tmp 0 false [(.dat (.int .u32))])], journal_Check⟩), (15, ⟨[(.tmp 0 false [(.dat (.list (.int .u8)))])], [(.tmp 0 false [(.dat (.int .u32))])], dialtoneref20_Check⟩), (34, ⟨[(.tmp 0 false [(.dat (.int .i64))]), (.tmp 1 false [(.dat (.int .i64))])], [(.tmp 0 false [(.dat (.list (.int .u8)))])], dialtoneref20_number⟩), (12, ⟨[(.tmp 0 false [(.dat (.int .i64))]), (.tmp 1 true [(.dat (.int .u8)), (.dat (.list (.int .u8)))])], [(.tmp 0 false [(.dat (.list (.int .u8)))]), (.tmp 1 false [(.dat (.int .u8))])], journal_Encode⟩), (13, ⟨[(.tmp 0 false [(.dat (.int .i64))]), (.tmp 1 true [(.dat (.int .u8)), (.dat (.list (.int .u8)))])], [(.tmp 0 false [(.dat (.list (.int .u8)))]), (.tmp 1 false [(.dat (.int .u8))])], dialtoneref20_Encode⟩), (39, ⟨[(.tmp 0 false [(.dat (.list (.int .u8)))]), (.tmp 1 false [(.dat (.int .i64))])], [(.tmp 0 false [(.dat .bool)])], journal_begins⟩), (40, ⟨[(.tmp 0 false [(.dat (.list (.int .u8)))]), (.tmp 1 false [(.dat (.int .i64))])], [(.tmp 0 false [(.dat .bool)])], dialtoneref20_wrong⟩), (37, ⟨[(.tmp 0 false [(.dat (.list (.int .u8)))]), (.tmp 1 false [(.dat (.list (.int .u8)))])], [(.tmp 0 false [(.dat (.list (.int .u8)))])], journal_joined⟩), (38, ⟨[(.tmp 0 false [(.dat (.list (.int .u8)))])], [(.tmp 0 false [(.dat (.list (.int .u8)))])], dialtoneref20_copied⟩), (27, ⟨[(.tmp 0 true [(.dat (.list (.int .u8))), (.dat (.int .i64)), (.dat (.int .i64))])], [(.tmp 0 false [(.dat .bool)])], journal_Valid⟩), (28, ⟨[(.tmp 0 true [(.dat (.list (.int .u8))), (.dat (.int .i64)), (.dat (.int .i64))])], [(.tmp 0 false [(.dat .bool)])], dialtoneref20_Valid⟩), (36, ⟨[(.tmp 0 false [(.dat (.list (.int .u8)))]), (.tmp 1 false [(.dat (.int .i64))])], [(.tmp 0 true [(.dat (.int .u8)), (.dat (.list (.int .u8)))]), (.tmp 1 false [(.dat (.int .i64))]), (.tmp 2 false [(.dat (.int .u8))])], dialtoneref20_One⟩), (18, ⟨[(.tmp 0 false [(.dat (.list (.int .u8)))])], [(.tmp 0 false [(.dat (.list (.pair (.int .u8) (.list (.int .u8)))))]), (.tmp 1 false [(.dat (.int .i64))]), (.tmp 2 false [(.dat (.int .u8))])], journal_Scan⟩), (20, ⟨[(.tmp 0 false [(.dat (.list (.int .u8)))])], [(.tmp 0 false [(.dat (.list (.pair (.int .u8) (.list (.int .u8)))))]), (.tmp 1 false [(.dat (.int .i64))]), (.tmp 2 false [(.dat (.int .u8))])], dialtoneref20_Scan⟩), (21, ⟨[(.tmp 0 false [(.dat (.list (.int .u8)))])], [(.tmp 0 true [(.dat (.list (.int .u8))), (.dat (.int .i64)), (.dat (.int .i64))]), (.tmp 1 false [(.dat (.list (.pair (.int .u8) (.list (.int .u8)))))])], journal_Recover⟩), (22, ⟨[(.tmp 0 false [(.dat (.list (.int .u8)))])], [(.tmp 0 true [(.dat (.list (.int .u8))), (.dat (.int .i64)), (.dat (.int .i64))]), (.tmp 1 false [(.dat (.list (.pair (.int .u8) (.list (.int .u8)))))])], dialtoneref20_Recover⟩), (19, ⟨[(.tmp 0 false [(.dat (.list (.pair (.int .u8) (.list (.int .u8)))))]), (.tmp 1 false [(.dat (.list (.pair (.int .u8) (.list (.int .u8)))))])], [(.tmp 0 false [(.dat .bool)])], dialtoneref20_Same⟩), (23, ⟨[(.tmp 0 true [(.dat (.list (.int .u8))), (.dat (.int .i64)), (.dat (.int .i64))]), (.tmp 1 true [(.dat (.list (.int .u8))), (.dat (.int .i64)), (.dat (.int .i64))])], [(.tmp 0 false [(.dat .bool)])], dialtoneref20_SameLog⟩), (25, ⟨[(.tmp 0 true [(.dat (.list (.int .u8))), (.dat (.int .i64)), (.dat (.int .i64))]), (.tmp 1 true [(.dat (.int .u8)), (.dat (.list (.int .u8)))])], [(.tmp 0 true [(.dat (.list (.int .u8))), (.dat (.int .i64)), (.dat (.int .i64))]), (.tmp 1 false [(.dat (.int .u8))])], journal_Append⟩), (29, ⟨[(.tmp 0 true [(.dat (.list (.int .u8))), (.dat (.int .i64)), (.dat (.int .i64))])], [(.tmp 0 true [(.dat (.list (.int .u8))), (.dat (.int .i64)), (.dat (.int .i64))])], journal_Sync⟩), (24, ⟨[(.tmp 0 true [(.dat (.list (.int .u8))), (.dat (.int .i64)), (.dat (.int .i64))]), (.tmp 1 false [(.dat (.int .i64))])], [(.tmp 0 false [(.dat (.list (.int .u8)))])], journal_Crash⟩), (11, ⟨[], riB, (fun _ => some true)⟩), (16, ⟨[(.tmp 0 false [(.dat (.list (.pair (.int .u8) (.list (.int .u8)))))])], [(.tmp 0 false [(.dat (.list (.pair (.int .u8) (.list (.int .u8)))))])], dialtonelaw20_few⟩), (17, ⟨[(.tmp 0 false [(.dat (.list (.pair (.int .u8) (.list (.int .u8)))))])], [(.tmp 0 true [(.dat (.list (.int .u8))), (.dat (.int .i64)), (.dat (.int .i64))]), (.tmp 1 false [(.dat (.list (.int .i64)))]), (.tmp 2 false [(.dat .bool)])], dialtonelaw20_write⟩), (7, ⟨[(.tmp 0 false [(.dat (.list (.int .u8)))])], [(.tmp 0 false [(.dat .bool)])], dialtonelaw20_JournalScans⟩), (4, ⟨[(.tmp 0 false [(.dat (.list (.pair (.int .u8) (.list (.int .u8)))))]), (.tmp 1 false [(.dat (.int .u16))])], [(.tmp 0 false [(.dat .bool)])], dialtonelaw20_JournalCuts⟩), (5, ⟨[(.tmp 0 false [(.dat (.list (.pair (.int .u8) (.list (.int .u8)))))]), (.tmp 1 false [(.dat (.int .u16))])], [(.tmp 0 false [(.dat .bool)])], dialtonelaw20_JournalBits⟩), (6, ⟨[(.tmp 0 false [(.dat (.list (.pair (.int .u8) (.list (.int .u8)))))]), (.tmp 1 false [(.dat (.int .u16))]), (.tmp 2 false [(.dat (.int .u16))]), (.tmp 3 false [(.dat (.int .u32))])], [(.tmp 0 false [(.dat .bool)])], dialtonelaw20_JournalBursts⟩)]
theorem cons10_ok : ConL Try.prog cons10 := ⟨con14, con15, con34, con12, con13, con39, con40, con37, con38, con27, con28, con36, con18, con20, con21, con22, con19, con23, con25, con29, con24, con_true (by kernel_rfl) lives_o, con16, con17, con7, con4, con5, con6, trivial⟩
theorem con10 : ConOk Try.prog 10 ⟨[(.tmp 0 false [(.dat (.list (.pair (.int .u8) (.pair (.pair (.int .u8) (.list (.int .u8))) (.int .u16)))))])], [(.tmp 0 false [(.dat .bool)])], dialtonelaw20_JournalCrashes⟩ :=
  tree_ok (plan := planOf plan10) (eg := egNo) KK tabL_ok (conOf_ok cons10_ok) Try.func10 (by kernel_rfl) (by kernel_rfl) 10000 (fun a r h => Eq.trans (show _ = dialtonelaw20_JournalCrashes a from by kernel_rfl) h)
end Go.Proofs.Ytmkbnmjhkghdjaa
