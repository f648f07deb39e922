import Derived.Test.YtheicchelhjcjaaFp
import Derived.Test.YtheicchelhjcjaaXBp
import Derived.Test.YtheicchelhjcjaaZ2p
set_option linter.unusedVariables false
set_option maxRecDepth 1000000
set_option maxHeartbeats 0
namespace Go.Proofs.Ytheicchelhjcjaa
open Go.RowKit
def plan8 : List (Nat × PL) := [(18049651735527937, (.carry [.drop 9, .drop 6, .row 15 3 (.int .i64), .mix 7 [(.dat (.list (.pair .str (.pair (.int .i64) (.pair (.int .u8) (.int .i64)))))), (.dat (.int .i64)), (.dat .bool), (.dat .bool), (.dat .bool)]])), (2422583247133816450713606, (.carry [.tmp 10 false [(.dat (.int .i64))], .tmp 6 false [(.dat (.list (.pair (.int .u8) (.pair (.int .i64) (.int .i64)))))], .tmp 9 false [(.dat .bool)], .row 15 3 (.int .i64), .mix 7 [(.dat (.list (.pair .str (.pair (.int .i64) (.pair (.int .u8) (.int .i64)))))), (.dat (.int .i64)), (.dat .bool), (.dat .bool), (.dat .bool)]])), (635065662736647179655867531777, (.carry [.tmp 6 false [(.dat (.list (.pair (.int .u8) (.pair (.int .i64) (.int .i64)))))], .tmp 16 false [(.dat (.int .u8))], .tmp 15 false [(.dat (.list (.pair (.int .u8) (.pair (.int .i64) (.int .i64)))))], .drop 14, .tmp 11 false [(.dat (.int .i64))], .tmp 9 false [(.dat .bool)], .row 15 3 (.int .i64), .mix 7 [(.dat (.list (.pair .str (.pair (.int .i64) (.pair (.int .u8) (.int .i64)))))), (.dat (.int .i64)), (.dat .bool), (.dat .bool), (.dat .bool)]])), (166478653092435638263707738249889793, (.carry [.tmp 11 false [(.dat (.int .i64))], .tmp 9 false [(.dat .bool)], .row 15 3 (.int .i64)])), (22344386578566885353984717483918904132896774, (.carry [.tmp 11 false [(.dat (.int .i64))], .tmp 9 false [(.dat .bool)], .row 15 3 (.int .i64)])), (5857446875251837594234969780104437205014091923969, (.carry [.tmp 9 false [(.dat .bool)], .tmp 12 false [(.dat (.int .i64))], .drop 13, .row 15 3 (.int .i64)])), (786173211477001069723203542034277164375661626018134753793, (.carry [.tmp 9 false [(.dat .bool)]])), (206090590349426968421519469323033552978093441290897916898312705, (.carry [])), (14162437529025952667373613813915269912825515756424041208844461209035212806, (.carry [.tmp 13 false [(.dat (.int .i64))]]))]
noncomputable def dialtonelaw23_ForkOrder : ((List ((List UInt8) × Int)) × (List (Int × (Int × Int)))) → Option Bool := fun (a1, a2) =>
  bindO (fork_New a1) fun ((x4, (x5, (x6, (x7, x8)))), (x9, x10)) =>
  bif (decide (x10 ≠ (0 : Int))) then
   some Bool.true
  else
   bif (decide (((0 : Int) ≤ (((List.length a1) : Nat) : Int)) ∧ (((((List.length a1) : Nat) : Int) ≤ (((List.length a1) : Nat) : Int)) ∧ ((((((List.length a1) : Nat) : Int) * (8 : Int)) ≤ (140737488355328 : Int)) ∧ ((((List.length a1) : Nat) : Int) ≤ (9223372036854775807 : Int)))))) then 
    joinO (loopO (fun (v12, (v13, (v14, (v15, (v16, (v17, (v18, (v19, v20)))))))) =>
      bif (decide (v12 ≤ (((List.length a2) : Nat) : Int))) then
       bif (decide (v12 ≤ (60 : Int))) then
        joinO (joinO (loopO (fun (v21, (v22, v23)) =>
           bif (decide (v21 < (((List.length v13) : Nat) : Int))) then
            joinO (bif (decide (((0 : Int) ≤ v21) ∧ (v21 < (((List.length v13) : Nat) : Int)))) then 
              bindO v13[(Int.toNat v21)]? fun x24 =>
              joinO (bif v22 then
                some (Sum.inl Bool.true)
               else
                bif (decide (((0 : Int) ≤ v21) ∧ (v21 < (((List.length v13) : Nat) : Int)))) then 
                 bindO v13[(Int.toNat v21)]? fun x25 =>
                 bif (decide (x25.1 = (4 : Int))) then
                  some (Sum.inl Bool.true)
                 else
                  bif (decide (((0 : Int) ≤ v21) ∧ (v21 < (((List.length v13) : Nat) : Int)))) then 
                   bindO v13[(Int.toNat v21)]? fun x26 =>
                   some (Sum.inl (decide (x26.1 = (6 : Int))))
                  else none
                else none) fun v27 =>
              bif (decide (((0 : Int) ≤ v21) ∧ (v21 < (((List.length v13) : Nat) : Int)))) then 
               bindO v13[(Int.toNat v21)]? fun x28 =>
               bif (decide (x28.1 ≠ (1 : Int))) then
                some (Sum.inl (v27, (x24.2.1, v23)))
               else
                joinO (bif v27 then
                  outO (outO (outO (outO (outO (outO (outO (some Bool.false)))))))
                 else
                  bif (decide (x24.2.1 < (0 : Int))) then
                   outO (outO (outO (outO (outO (outO (outO (some Bool.false)))))))
                  else
                   bif (decide (x24.2.1 ≥ (((List.length v16) : Nat) : Int))) then
                    outO (outO (outO (outO (outO (outO (outO (some Bool.false)))))))
                   else
                    bif (decide (x24.2.1 ≥ (((Int.toNat (((List.length a1) : Nat) : Int)) : Nat) : Int))) then
                     outO (outO (outO (outO (outO (outO (outO (some Bool.false)))))))
                    else
                     bif (decide (((0 : Int) ≤ x24.2.1) ∧ (x24.2.1 < (((Int.toNat (((List.length a1) : Nat) : Int)) : Nat) : Int)))) then 
                      bindO v23[(Int.toNat x24.2.1)]? fun x29 =>
                      bif (decide (x29 > (0 : Int))) then
                       outO (outO (outO (outO (outO (outO (outO (some Bool.false)))))))
                      else
                       some (Sum.inl ())
                     else none) fun _ =>
                bif (decide (((0 : Int) ≤ x24.2.1) ∧ (x24.2.1 < (((Int.toNat (((List.length a1) : Nat) : Int)) : Nat) : Int)))) then 
                 bindO v23[(Int.toNat x24.2.1)]? fun x30 =>
                 bif (decide (((0 : Int) ≤ x24.2.1) ∧ (x24.2.1 < (((Int.toNat (((List.length a1) : Nat) : Int)) : Nat) : Int)))) then 
                  bindO v23[(Int.toNat x24.2.1)]? fun x32 =>
                  loopO (fun v33 =>
                   bif (decide (v33 < (((List.length v16) : Nat) : Int))) then
                    bif (decide (((0 : Int) ≤ v33) ∧ (v33 < (((List.length v16) : Nat) : Int)))) then 
                     bindO v16[(Int.toNat v33)]? fun x34 =>
                     bif (decide (((0 : Int) ≤ x24.2.1) ∧ (x24.2.1 < (((List.length v16) : Nat) : Int)))) then 
                      bindO v16[(Int.toNat x24.2.1)]? fun x35 =>
                      bif (decide (x34.2.1 > x35.2.1)) then
                       bif (decide (((0 : Int) ≤ v33) ∧ (v33 < (((List.length v16) : Nat) : Int)))) then 
                        bindO v16[(Int.toNat v33)]? fun x36 =>
                        bif (decide (x36.2.2.1 ≠ (5 : Int))) then
                         outO (outO (outO (outO (outO (outO (outO (some Bool.false)))))))
                        else
                         some (Sum.inl (Go.IntKind.wrap .i64 (v33 + (1 : Int))))
                       else none
                      else
                       some (Sum.inl (Go.IntKind.wrap .i64 (v33 + (1 : Int))))
                     else none
                    else none
                   else
                    outO (some (Sum.inl (v27, (x24.2.1, (List.set v23 (Int.toNat x24.2.1) (Go.IntKind.wrap .i64 (x30 + (1 : Int))))))))) (0 : Int)
                 else none
                else none
              else none
             else none) fun (v39, (v40, v41)) =>
            some (Sum.inl ((Go.IntKind.wrap .i64 (v21 + (1 : Int))), (v39, v41)))
           else
            outO (some (Sum.inl (v21, (v22, v23))))) ((0 : Int), (v14, v15))) fun (v43, (v44, v45)) =>
         bif (decide (v12 = (((List.length a2) : Nat) : Int))) then
          outO (outO (some (Sum.inl (v45, (v16, (v17, (v18, (v19, v20))))))))
         else
          bif (decide (v12 = (60 : Int))) then
           outO (outO (some (Sum.inl (v45, (v16, (v17, (v18, (v19, v20))))))))
          else
           bif (decide (((0 : Int) ≤ v12) ∧ (v12 < (((List.length a2) : Nat) : Int)))) then 
            bindO a2[(Int.toNat v12)]? fun x46 =>
            bindO (fork_Step ((v16, (v17, (v18, (v19, v20)))), (x46.1, (x46.2.1, x46.2.2)))) fun ((x48, (x49, (x50, (x51, x52)))), (x53, x54)) =>
            bif (decide (x54 = (0 : Int))) then
             bif v44 then
              some (Sum.inl (x53, (x54, (x53, (v43, (Bool.true, (v45, (x48, (x49, (x50, (x51, x52)))))))))))
             else
              bif (decide (((0 : Int) ≤ v12) ∧ (v12 < (((List.length a2) : Nat) : Int)))) then 
               bindO a2[(Int.toNat v12)]? fun x55 =>
               bif (decide (x55.1 = (4 : Int))) then
                some (Sum.inl (x53, (x54, (x53, (v43, (Bool.true, (v45, (x48, (x49, (x50, (x51, x52)))))))))))
               else
                bif (decide (((0 : Int) ≤ v12) ∧ (v12 < (((List.length a2) : Nat) : Int)))) then 
                 bindO a2[(Int.toNat v12)]? fun x56 =>
                 bif (decide (x56.1 = (2 : Int))) then
                  bif (decide (((0 : Int) ≤ v12) ∧ (v12 < (((List.length a2) : Nat) : Int)))) then 
                   bindO a2[(Int.toNat v12)]? fun x57 =>
                   some (Sum.inl (x53, (x54, (x53, (v43, ((decide (x57.2.2 ≥ (600 : Int))), (v45, (x48, (x49, (x50, (x51, x52)))))))))))
                  else none
                 else
                  some (Sum.inl (x53, (x54, (x53, (v43, (Bool.false, (v45, (x48, (x49, (x50, (x51, x52)))))))))))
                else none
              else none
            else
             some (Sum.inl (([] : List (Int × (Int × Int))), (x54, (x53, (v43, (v44, (v45, (v16, (v17, (v18, (v19, v20)))))))))))
           else none) fun (v58, (v59, (v60, (v61, (v62, (v63, (v64, (v65, (v66, (v67, v68)))))))))) =>
        some (Sum.inl ((Go.IntKind.wrap .i64 (v12 + (1 : Int))), (v58, (v62, (v63, (v64, (v65, (v66, (v67, v68)))))))))
       else
        outO (some (Sum.inl (v15, (v16, (v17, (v18, (v19, v20)))))))
      else
       outO (some (Sum.inl (v15, (v16, (v17, (v18, (v19, v20)))))))) ((0 : Int), (x9, (Bool.false, ((List.replicate (Int.toNat (((List.length a1) : Nat) : Int)) (0 : Int)), (x4, (x5, (x6, (x7, x8))))))))) fun (v70, (v71, (v72, (v73, (v74, v75))))) =>
    some Bool.true
   else none
noncomputable def cons8 : List (Nat × CE) := [(63, ⟨[(.tmp 0 false [(.dat (.int .u8))])], [(.tmp 0 false [(.dat .bool)])], fork_live⟩), (50, ⟨[(.tmp 0 false [(.dat (.int .u8))])], [(.tmp 0 false [(.dat .bool)])], fork_open⟩), (32, ⟨[(.tmp 0 false [(.dat (.list (.pair .str (.pair (.int .i64) (.pair (.int .u8) (.int .i64))))))])], [(.tmp 0 false [(.dat .bool)])], fork_validOrder⟩), (34, ⟨[(.tmp 0 true [(.dat (.list (.pair .str (.pair (.int .i64) (.pair (.int .u8) (.int .i64)))))), (.dat (.int .i64)), (.dat .bool), (.dat .bool), (.dat .bool)]), (.tmp 1 true [(.dat (.int .i64)), (.dat (.int .i64)), (.dat (.int .i64)), (.dat (.int .i64)), (.dat .bool), (.dat .bool)])], [(.tmp 0 false [(.dat .bool)])], fork_validWinner⟩), (33, ⟨[(.tmp 0 false [(.dat (.list (.pair .str (.pair (.int .i64) (.pair (.int .u8) (.int .i64))))))])], [(.tmp 0 true [(.dat (.int .i64)), (.dat (.int .i64)), (.dat (.int .i64)), (.dat (.int .i64)), (.dat .bool), (.dat .bool)])], fork_count⟩), (31, ⟨[(.tmp 0 false [(.dat (.list (.pair .str (.pair (.int .i64) (.pair (.int .u8) (.int .i64))))))])], [(.tmp 0 false [(.dat .bool)])], fork_validBranches⟩), (15, ⟨[(.tmp 0 true [(.dat (.list (.pair .str (.pair (.int .i64) (.pair (.int .u8) (.int .i64)))))), (.dat (.int .i64)), (.dat .bool), (.dat .bool), (.dat .bool)])], [(.tmp 0 false [(.dat .bool)])], fork_Valid⟩), (17, ⟨[(.tmp 0 true [(.dat (.list (.pair .str (.pair (.int .i64) (.pair (.int .u8) (.int .i64)))))), (.dat (.int .i64)), (.dat .bool), (.dat .bool), (.dat .bool)])], [(.tmp 0 false [(.dat (.int .i64))])], fork_Best⟩), (36, ⟨[(.tmp 0 true [(.dat (.list (.pair .str (.pair (.int .i64) (.pair (.int .u8) (.int .i64)))))), (.dat (.int .i64)), (.dat .bool), (.dat .bool), (.dat .bool)]), (.tmp 1 true [(.dat (.int .u8)), (.dat (.int .i64)), (.dat (.int .i64))])], [(.tmp 0 false [(.dat (.int .u8))])], fork_check⟩), (46, ⟨[(.tmp 0 true [(.dat .str), (.dat (.int .i64)), (.dat (.int .u8)), (.dat (.int .i64))])], [(.tmp 0 false [(.dat .bool)])], dialtoneref23_Open⟩), (24, ⟨[(.tmp 0 true [(.dat (.list (.pair .str (.pair (.int .i64) (.pair (.int .u8) (.int .i64)))))), (.dat (.int .i64)), (.dat .bool), (.dat .bool), (.dat .bool)])], [(.tmp 0 false [(.dat .bool)])], dialtoneref23_AnyOpen⟩), (60, ⟨[(.tmp 0 true [(.dat .str), (.dat (.int .i64)), (.dat (.int .u8)), (.dat (.int .i64))])], [(.tmp 0 false [(.dat .bool)])], dialtoneref23_Live⟩), (59, ⟨[(.tmp 0 true [(.dat .str), (.dat (.int .i64)), (.dat (.int .u8)), (.dat (.int .i64))])], [(.tmp 0 false [(.dat .bool)])], dialtoneref23_early⟩), (35, ⟨[(.tmp 0 true [(.dat (.list (.pair .str (.pair (.int .i64) (.pair (.int .u8) (.int .i64)))))), (.dat (.int .i64)), (.dat .bool), (.dat .bool), (.dat .bool)]), (.tmp 1 false [(.dat (.int .i64))])], [(.tmp 0 false [(.dat .bool)])], dialtoneref23_branch⟩), (16, ⟨[(.tmp 0 true [(.dat (.list (.pair .str (.pair (.int .i64) (.pair (.int .u8) (.int .i64)))))), (.dat (.int .i64)), (.dat .bool), (.dat .bool), (.dat .bool)])], [(.tmp 0 false [(.dat .bool)])], dialtoneref23_Valid⟩), (18, ⟨[(.tmp 0 true [(.dat (.list (.pair .str (.pair (.int .i64) (.pair (.int .u8) (.int .i64)))))), (.dat (.int .i64)), (.dat .bool), (.dat .bool), (.dat .bool)])], [(.tmp 0 false [(.dat (.int .i64))])], dialtoneref23_Best⟩), (45, ⟨[(.tmp 0 true [(.dat (.list (.pair .str (.pair (.int .i64) (.pair (.int .u8) (.int .i64)))))), (.dat (.int .i64)), (.dat .bool), (.dat .bool), (.dat .bool)])], [(.tmp 0 true [(.dat (.list (.pair .str (.pair (.int .i64) (.pair (.int .u8) (.int .i64)))))), (.dat (.int .i64)), (.dat .bool), (.dat .bool), (.dat .bool)]), (.tmp 1 false [(.dat (.list (.pair (.int .u8) (.pair (.int .i64) (.int .i64)))))])], dialtoneref23_stop⟩), (56, ⟨[(.tmp 0 true [(.dat (.list (.pair .str (.pair (.int .i64) (.pair (.int .u8) (.int .i64)))))), (.dat (.int .i64)), (.dat .bool), (.dat .bool), (.dat .bool)])], [(.tmp 0 false [(.dat (.int .i64))])], dialtoneref23_first⟩), (57, ⟨[(.tmp 0 true [(.dat (.list (.pair .str (.pair (.int .i64) (.pair (.int .u8) (.int .i64)))))), (.dat (.int .i64)), (.dat .bool), (.dat .bool), (.dat .bool)])], [(.tmp 0 true [(.dat (.list (.pair .str (.pair (.int .i64) (.pair (.int .u8) (.int .i64)))))), (.dat (.int .i64)), (.dat .bool), (.dat .bool), (.dat .bool)])], dialtoneref23_skip⟩), (30, ⟨[(.tmp 0 true [(.dat (.list (.pair .str (.pair (.int .i64) (.pair (.int .u8) (.int .i64)))))), (.dat (.int .i64)), (.dat .bool), (.dat .bool), (.dat .bool)])], [(.tmp 0 true [(.dat (.list (.pair .str (.pair (.int .i64) (.pair (.int .u8) (.int .i64)))))), (.dat (.int .i64)), (.dat .bool), (.dat .bool), (.dat .bool)]), (.tmp 1 false [(.dat (.list (.pair (.int .u8) (.pair (.int .i64) (.int .i64)))))])], dialtoneref23_goOn⟩), (41, ⟨[(.tmp 0 true [(.dat (.list (.pair .str (.pair (.int .i64) (.pair (.int .u8) (.int .i64)))))), (.dat (.int .i64)), (.dat .bool), (.dat .bool), (.dat .bool)]), (.tmp 1 true [(.dat (.int .u8)), (.dat (.int .i64)), (.dat (.int .i64))])], [(.tmp 0 false [(.dat (.int .u8))])], dialtoneref23_wrong⟩), (13, ⟨[(.tmp 0 true [(.dat (.list (.pair .str (.pair (.int .i64) (.pair (.int .u8) (.int .i64)))))), (.dat (.int .i64)), (.dat .bool), (.dat .bool), (.dat .bool)]), (.tmp 1 true [(.dat (.list (.pair .str (.pair (.int .i64) (.pair (.int .u8) (.int .i64)))))), (.dat (.int .i64)), (.dat .bool), (.dat .bool), (.dat .bool)])], [(.tmp 0 false [(.dat .bool)])], dialtoneref23_Same⟩), (14, ⟨[(.tmp 0 false [(.dat (.list (.pair (.int .u8) (.pair (.int .i64) (.int .i64)))))]), (.tmp 1 false [(.dat (.list (.pair (.int .u8) (.pair (.int .i64) (.int .i64)))))])], [(.tmp 0 false [(.dat .bool)])], dialtoneref23_SameActs⟩), (12, ⟨[(.tmp 0 false [(.dat (.list (.pair .str (.int .i64))))])], [(.tmp 0 true [(.dat (.list (.pair .str (.pair (.int .i64) (.pair (.int .u8) (.int .i64)))))), (.dat (.int .i64)), (.dat .bool), (.dat .bool), (.dat .bool)]), (.tmp 1 false [(.dat (.list (.pair (.int .u8) (.pair (.int .i64) (.int .i64)))))]), (.tmp 2 false [(.dat (.int .u8))])], dialtoneref23_New⟩), (21, ⟨[(.tmp 0 true [(.dat (.list (.pair .str (.pair (.int .i64) (.pair (.int .u8) (.int .i64)))))), (.dat (.int .i64)), (.dat .bool), (.dat .bool), (.dat .bool)]), (.tmp 1 true [(.dat (.int .u8)), (.dat (.int .i64)), (.dat (.int .i64))])], [(.tmp 0 true [(.dat (.list (.pair .str (.pair (.int .i64) (.pair (.int .u8) (.int .i64)))))), (.dat (.int .i64)), (.dat .bool), (.dat .bool), (.dat .bool)]), (.tmp 1 false [(.dat (.list (.pair (.int .u8) (.pair (.int .i64) (.int .i64)))))]), (.tmp 2 false [(.dat (.int .u8))])], dialtoneref23_Step⟩), (37, ⟨[.tmp 0 false [.dat (.list (.pair .str (.pair (.int .i64) (.pair (.int .u8) (.int .i64)))))]], [.tmp 0 false [.own 1 49 (.pair .str (.pair (.int .i64) (.pair (.int .u8) (.int .i64))))]], cloneG⟩), (62, ⟨[], riB, (fun _ => none)⟩), (19, ⟨[], riB, (fun _ => some true)⟩), (10, ⟨[], riB, (fun _ => some true)⟩), (20, ⟨[(.tmp 0 true [(.dat (.list (.pair .str (.pair (.int .i64) (.pair (.int .u8) (.int .i64)))))), (.dat (.int .i64)), (.dat .bool), (.dat .bool), (.dat .bool)]), (.tmp 1 true [(.dat (.int .u8)), (.dat (.int .i64)), (.dat (.int .i64))])], [(.tmp 0 true [(.dat (.list (.pair .str (.pair (.int .i64) (.pair (.int .u8) (.int .i64)))))), (.dat (.int .i64)), (.dat .bool), (.dat .bool), (.dat .bool)]), (.tmp 1 false [(.dat (.list (.pair (.int .u8) (.pair (.int .i64) (.int .i64)))))]), (.tmp 2 false [(.dat (.int .u8))])], fork_Step⟩), (11, ⟨[(.tmp 0 false [(.dat (.list (.pair .str (.int .i64))))])], [(.tmp 0 true [(.dat (.list (.pair .str (.pair (.int .i64) (.pair (.int .u8) (.int .i64)))))), (.dat (.int .i64)), (.dat .bool), (.dat .bool), (.dat .bool)]), (.tmp 1 false [(.dat (.list (.pair (.int .u8) (.pair (.int .i64) (.int .i64)))))]), (.tmp 2 false [(.dat (.int .u8))])], fork_New⟩), (23, ⟨[(.tmp 0 false [(.dat (.list (.pair (.int .u8) (.pair (.int .i64) (.int .i64)))))]), (.tmp 1 false [(.dat (.int .u8))])], [(.tmp 0 false [(.dat (.int .i64))])], dialtonelaw23_all⟩), (25, ⟨[(.tmp 0 false [(.dat (.list (.pair (.int .u8) (.pair (.int .i64) (.int .i64)))))]), (.tmp 1 false [(.dat (.int .u8))]), (.tmp 2 false [(.dat (.int .i64))])], [(.tmp 0 false [(.dat (.int .i64))])], dialtonelaw23_count⟩)]
theorem cons8_ok : ConL Try.prog cons8 := ⟨con63, con50, con32, con34, con33, con31, con15, con17, con36, con46, con24, con60, con59, con35, con16, con18, con45, con56, con57, con30, con41, con13, con14, con12, con21, clone_con37, noSym, con_true (by kernel_rfl) live_o, con_true (by kernel_rfl) known_o, con20, con11, con23, con25, trivial⟩
theorem con8 : ConOk Try.prog 8 ⟨[(.tmp 0 false [(.dat (.list (.pair .str (.int .i64))))]), (.tmp 1 false [(.dat (.list (.pair (.int .u8) (.pair (.int .i64) (.int .i64)))))])], [(.tmp 0 false [(.dat .bool)])], dialtonelaw23_ForkOrder⟩ :=
  tree_ok (plan := planOf plan8) (eg := egNo) KK tabL_ok (conOf_ok cons8_ok) Try.func8 (by kernel_rfl) (by kernel_rfl) 10000 (fun a r h => Eq.trans (show _ = dialtonelaw23_ForkOrder a from by kernel_rfl) h)
end Go.Proofs.Ytheicchelhjcjaa
