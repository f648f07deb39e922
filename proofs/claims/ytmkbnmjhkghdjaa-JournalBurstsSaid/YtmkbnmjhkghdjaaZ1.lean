/- Trees of functions, printed by the executor. -/
import Derived.Test.YtmkbnmjhkghdjaaF
import Derived.Test.YtmkbnmjhkghdjaaXB
set_option linter.unusedVariables false
set_option maxRecDepth 1000000
set_option maxHeartbeats 0
namespace Go.Proofs.Ytmkbnmjhkghdjaa
open Go.RowKit
/-! ### dialtone/journal.Check -/
def plan14 : List (Nat × PL) := [(134480385, (.carry [.tmp 3 false [(.dat (.int .u32))]])), (18049651601311750, (.carry [.tmp 9 false [(.dat (.int .i64))], .tmp 3 false [(.dat (.int .u32))]])), (2422583229119624904966657, (.carry [.tmp 3 false [(.dat (.int .u32))]])), (43641379711748622625774587972117695039494, (.carry [.tmp 17 false [(.dat (.int .i64))], .tmp 3 false [(.dat (.int .u32))]]))]
noncomputable def journal_Check : (List Int) → Option Int := fun a1 =>
  joinO (loopO (fun (v2, v3) =>
    bif (decide (v2 < (((List.length a1) : Nat) : Int))) then
     joinO (bif (decide (((0 : Int) ≤ v2) ∧ (v2 < (((List.length a1) : Nat) : Int)))) then 
       bindO a1[(Int.toNat v2)]? fun x4 =>
       loopO (fun (v7, v8) =>
        bif (decide (v7 < (8 : Int))) then
         bindO (some (Go.IntKind.wrap .u32 (Int.tdiv v8 (2 : Int)))) fun x10 =>
         bif (decide ((Go.IntKind.wrap .u32 (((BitVec.toNat ((BitVec.ofInt 32 v8) &&& (BitVec.ofInt 32 (1 : Int)))) : Nat) : Int)) = (1 : Int))) then
          some (Sum.inl ((Go.IntKind.wrap .i64 (v7 + (1 : Int))), (Go.IntKind.wrap .u32 (((BitVec.toNat ((BitVec.ofInt 32 x10) ^^^ (BitVec.ofInt 32 (3988292384 : Int)))) : Nat) : Int))))
         else
          some (Sum.inl ((Go.IntKind.wrap .i64 (v7 + (1 : Int))), x10))
        else
         outO (some (Sum.inl v8))) ((0 : Int), (Go.IntKind.wrap .u32 (((BitVec.toNat ((BitVec.ofInt 32 v3) ^^^ (BitVec.ofInt 32 (Go.IntKind.wrap .u32 x4)))) : Nat) : Int)))
      else none) fun v14 =>
     some (Sum.inl ((Go.IntKind.wrap .i64 (v2 + (1 : Int))), v14))
    else
     outO (some (Sum.inl v3))) ((0 : Int), (4294967295 : Int))) fun v16 =>
  some (Go.IntKind.wrap .u32 (((BitVec.toNat ((BitVec.ofInt 32 (4294967295 : Int)) ^^^ (BitVec.ofInt 32 v16))) : Nat) : Int))
noncomputable def cons14 : List (Nat × CE) := []
theorem cons14_ok : ConL Try.prog cons14 := trivial
theorem con14 : ConOk Try.prog 14 ⟨[(.tmp 0 false [(.dat (.list (.int .u8)))])], [(.tmp 0 false [(.dat (.int .u32))])], journal_Check⟩ :=
  tree_ok (plan := planOf plan14) (eg := egNo) KK tabL_ok (conOf_ok cons14_ok) Try.func14 (by kernel_rfl) (by kernel_rfl) 10000 (fun a r h => Eq.trans (show _ = journal_Check a from by kernel_rfl) h)
/-! ### dialtone/dialtoneref20.Check -/
def plan15 : List (Nat × PL) := [(134480385, (.carry [.tmp 3 false [(.dat (.int .u32))]])), (18049651601311750, (.carry [.tmp 4 false [(.dat (.int .i64))], .tmp 3 false [(.dat (.int .u32))]])), (4731607869374267392513, (.carry [.tmp 3 false [(.dat (.int .u32))]])), (166478651854509821417867418488014854, (.carry [.tmp 5 false [(.dat (.int .i64))], .tmp 3 false [(.dat (.int .u32))]]))]
noncomputable def dialtoneref20_Check : (List Int) → Option Int := fun a1 =>
  joinO (loopO (fun (v2, v3) =>
    bif (decide (v2 < (((List.length a1) : Nat) : Int))) then
     joinO (bif (decide (((0 : Int) ≤ v2) ∧ (v2 < (((List.length a1) : Nat) : Int)))) then 
       bindO a1[(Int.toNat v2)]? fun x4 =>
       loopO (fun (v7, v8) =>
        bif (decide (v7 < (8 : Int))) then
         bif (decide ((Int.tmod v8 (2 : Int)) = (1 : Int))) then
          some (Sum.inl ((Go.IntKind.wrap .i64 (v7 + (1 : Int))), (Go.IntKind.wrap .u32 (((BitVec.toNat ((BitVec.ofInt 32 (Go.IntKind.wrap .u32 (Int.tdiv v8 (2 : Int)))) ^^^ (BitVec.ofInt 32 (3988292384 : Int)))) : Nat) : Int))))
         else
          some (Sum.inl ((Go.IntKind.wrap .i64 (v7 + (1 : Int))), (Go.IntKind.wrap .u32 (Int.tdiv v8 (2 : Int)))))
        else
         outO (some (Sum.inl v8))) ((0 : Int), (Go.IntKind.wrap .u32 (((BitVec.toNat ((BitVec.ofInt 32 v3) ^^^ (BitVec.ofInt 32 (Go.IntKind.wrap .u32 x4)))) : Nat) : Int)))
      else none) fun v15 =>
     some (Sum.inl ((Go.IntKind.wrap .i64 (v2 + (1 : Int))), v15))
    else
     outO (some (Sum.inl v3))) ((0 : Int), (4294967295 : Int))) fun v17 =>
  some (Go.IntKind.wrap .u32 (((BitVec.toNat ((BitVec.ofInt 32 v17) ^^^ (BitVec.ofInt 32 (4294967295 : Int)))) : Nat) : Int))
noncomputable def cons15 : List (Nat × CE) := [(14, ⟨[(.tmp 0 false [(.dat (.list (.int .u8)))])], [(.tmp 0 false [(.dat (.int .u32))])], journal_Check⟩)]
theorem cons15_ok : ConL Try.prog cons15 := ⟨con14, trivial⟩
theorem con15 : ConOk Try.prog 15 ⟨[(.tmp 0 false [(.dat (.list (.int .u8)))])], [(.tmp 0 false [(.dat (.int .u32))])], dialtoneref20_Check⟩ :=
  tree_ok (plan := planOf plan15) (eg := egNo) KK tabL_ok (conOf_ok cons15_ok) Try.func15 (by kernel_rfl) (by kernel_rfl) 10000 (fun a r h => Eq.trans (show _ = dialtoneref20_Check a from by kernel_rfl) h)
/-! ### dialtone/dialtoneref20.number -/
def plan34 : List (Nat × PL) := [(134480385, (.carry [.drop 0, .tmp 5 false [(.dat (.list (.int .u8)))]])), (18049651601311750, (.carry [.tmp 6 false [(.dat (.int .i64))], .tmp 0 false [(.dat (.int .i64))], .tmp 5 false [(.dat (.list (.int .u8)))]]))]
noncomputable def dialtoneref20_number : (Int × Int) → Option (List Int) := fun (a1, a2) =>
  joinO (loopO (fun (v3, (v4, v5)) =>
    bif (decide (v3 < a2)) then
     bindO (some (Int.tmod v4 (256 : Int))) fun x6 =>
     bif (decide ((1 = 0) ∨ ((List.length v5) ≠ 0))) then
      bif (decide (((List.length (((Go.IntKind.wrap .u8 x6) :: ([] : List Int)) ++ v5)) * 1) ≤ 140737488355328)) then 
       bindO (some (((Go.IntKind.wrap .u8 x6) :: ([] : List Int)) ++ v5)) fun x8 =>
       bif (decide ((List.length x8) ≤ (List.length x8))) then 
        some (Sum.inl ((Go.IntKind.wrap .i64 (v3 + (1 : Int))), ((Go.IntKind.wrap .i64 (Int.tdiv v4 (256 : Int))), (List.take (List.length x8) x8))))
       else none
      else none
     else
      some (Sum.inl ((Go.IntKind.wrap .i64 (v3 + (1 : Int))), ((Go.IntKind.wrap .i64 (Int.tdiv v4 (256 : Int))), ((Go.IntKind.wrap .u8 x6) :: ([] : List Int)))))
    else
     outO (some (Sum.inl v5))) ((0 : Int), (a1, ([] : List Int)))) fun v13 =>
  some v13
noncomputable def cons34 : List (Nat × CE) := [(14, ⟨[(.tmp 0 false [(.dat (.list (.int .u8)))])], [(.tmp 0 false [(.dat (.int .u32))])], journal_Check⟩), (15, ⟨[(.tmp 0 false [(.dat (.list (.int .u8)))])], [(.tmp 0 false [(.dat (.int .u32))])], dialtoneref20_Check⟩)]
theorem cons34_ok : ConL Try.prog cons34 := ⟨con14, con15, trivial⟩
theorem con34 : ConOk Try.prog 34 ⟨[(.tmp 0 false [(.dat (.int .i64))]), (.tmp 1 false [(.dat (.int .i64))])], [(.tmp 0 false [(.dat (.list (.int .u8)))])], dialtoneref20_number⟩ :=
  tree_ok (plan := planOf plan34) (eg := egAll) KK tabL_ok (conOf_ok cons34_ok) Try.func34 (by kernel_rfl) (by kernel_rfl) 10000 (fun a r h => Eq.trans (show _ = dialtoneref20_number a from by kernel_rfl) h)
/-! ### dialtone/journal.Encode -/
def plan12 : List (Nat × PL) := [(4731607904492334612511, (.carry [.tmp 0 false [(.own 10000005 5 (.int .u8))]])), (1240362622515238564662084097, (.carry [.tmp 0 false [(.own 10000004 5 (.int .u8))]])), (166478653090116965526926015110318086, (.carry [.tmp 10 false [(.dat (.int .i64))], .tmp 0 false [(.own 10000003 5 (.int .u8))]])), (22344386578255678367278332572200562860491265, (.carry [.tmp 0 false [(.own 10000002 5 (.int .u8))], .dead 10000003])), (786173211466051447306281901482090301346629135624380352518, (.carry [.tmp 7 false [(.dat (.int .i64))], .tmp 0 false [(.own 10000001 5 (.int .u8))], .dead 10000003])), (18049651735527445, (.carry [.tmp 0 false [(.own 10000006 5 (.int .u8))], .dead 22])), (4731607904558106542593, (.carry [.tmp 0 false [(.own 10000010 5 (.int .u8))], .dead 22])), (635065662736629904128633735174, (.carry [.tmp 10 false [(.dat (.int .i64))], .tmp 0 false [(.own 10000009 5 (.int .u8))], .dead 22])), (85237070383324728109003039679208227329, (.carry [.tmp 0 false [(.own 10000008 5 (.int .u8))], .dead 22, .dead 10000009])), (2999012800128859266877521744582980956552618278389766, (.carry [.tmp 7 false [(.dat (.int .i64))], .tmp 0 false [(.own 10000007 5 (.int .u8))], .dead 22, .dead 10000009]))]
noncomputable def journal_Encode : (Int × (Int × (List Int))) → Option ((List Int) × Int) := fun (a1, (a2, a3)) =>
  bif (decide (a1 < (0 : Int))) then
   some (([] : List Int), (3 : Int))
  else
   bif (decide (a1 > (1048575 : Int))) then
    some (([] : List Int), (3 : Int))
   else
    bif (decide ((((List.length a3) : Nat) : Int) > (4096 : Int))) then
     some (([] : List Int), (4 : Int))
    else
     joinO (joinO (loopO (fun (v9, v10) =>
        bif (decide (v9 < (5 : Int))) then
         joinO (bif (decide (((0 : Int) ≤ v9) ∧ (v9 < (5 : Int)))) then 
           bindO (((167 : Int), (1 : Int)) :: (((Go.IntKind.wrap .u32 a2), (1 : Int)) :: (((Go.IntKind.wrap .u32 a1), (4 : Int)) :: (((Go.IntKind.wrap .u32 (((List.length a3) : Nat) : Int)), (2 : Int)) :: (((Go.IntKind.wrap .u32 (Go.IntKind.wrap .i64 ((65535 : Int) - (((List.length a3) : Nat) : Int)))), (2 : Int)) :: ([] : List (Int × Int)))))))[(Int.toNat v9)]? fun x11 =>
           bif (decide ((List.length v10) ≤ (List.length v10))) then 
            loopO (fun (v13, v14) =>
             bif (decide (v13 ≥ (0 : Int))) then
              bindO (some (Go.IntKind.wrap .i64 ((8 : Int) * v13))) fun x15 =>
              bif (decide ((0 : Int) ≤ x15)) then 
               bindO (some (Int.fdiv x11.1 ((2 : Int) ^ (Min.min (Int.toNat x15) 32)))) fun x16 =>
               bif (decide ((List.length v14) ≤ (List.length v14))) then 
                bif (decide (((List.length ((List.take (List.length v14) v14) ++ ((Go.IntKind.wrap .u8 x16) :: ([] : List Int)))) * 1) ≤ 140737488355328)) then 
                 bindO (some ((List.take (List.length v14) v14) ++ ((Go.IntKind.wrap .u8 x16) :: ([] : List Int)))) fun x18 =>
                 bif (decide ((List.length x18) ≤ (List.length x18))) then 
                  some (Sum.inl ((Go.IntKind.wrap .i64 (v13 - (1 : Int))), (List.take (List.length x18) x18)))
                 else none
                else none
               else none
              else none
             else
              outO (bif (decide ((List.length v14) ≤ (List.length v14))) then 
               some (Sum.inl (List.take (List.length v14) v14))
              else none)) ((Go.IntKind.wrap .i64 (x11.2 - (1 : Int))), (List.take (List.length v10) v10))
           else none
          else none) fun v20 =>
         bif (decide ((List.length v20) ≤ (List.length v20))) then 
          some (Sum.inl ((Go.IntKind.wrap .i64 (v9 + (1 : Int))), (List.take (List.length v20) v20)))
         else none
        else
         outO (bif (decide ((List.length v10) ≤ (List.length v10))) then 
          some (Sum.inl (List.take (List.length v10) v10))
         else none)) ((0 : Int), ([] : List Int))) fun v22 =>
      bif (decide ((List.length v22) ≤ (List.length v22))) then 
       some (Sum.inl (List.take (List.length v22) v22))
      else none) fun v23 =>
     bif (decide ((List.length v23) ≤ (List.length v23))) then 
      bif (decide (((List.length ((List.take (List.length v23) v23) ++ a3)) * 1) ≤ 140737488355328)) then 
       bindO (some ((List.take (List.length v23) v23) ++ a3)) fun x24 =>
       bif (decide ((List.length x24) ≤ (List.length x24))) then 
        bindO (journal_Check (List.take (List.length x24) x24)) fun x25 =>
        joinO (joinO (bif (decide ((List.length x24) ≤ (List.length x24))) then 
           loopO (fun (v26, v27) =>
            bif (decide (v26 < (1 : Int))) then
             joinO (bif (decide (((0 : Int) ≤ v26) ∧ (v26 < (1 : Int)))) then 
               bindO ((x25, (4 : Int)) :: ([] : List (Int × Int)))[(Int.toNat v26)]? fun x28 =>
               bif (decide ((List.length v27) ≤ (List.length v27))) then 
                loopO (fun (v30, v31) =>
                 bif (decide (v30 ≥ (0 : Int))) then
                  bindO (some (Go.IntKind.wrap .i64 ((8 : Int) * v30))) fun x32 =>
                  bif (decide ((0 : Int) ≤ x32)) then 
                   bindO (some (Int.fdiv x28.1 ((2 : Int) ^ (Min.min (Int.toNat x32) 32)))) fun x33 =>
                   bif (decide ((List.length v31) ≤ (List.length v31))) then 
                    bif (decide (((List.length ((List.take (List.length v31) v31) ++ ((Go.IntKind.wrap .u8 x33) :: ([] : List Int)))) * 1) ≤ 140737488355328)) then 
                     bindO (some ((List.take (List.length v31) v31) ++ ((Go.IntKind.wrap .u8 x33) :: ([] : List Int)))) fun x35 =>
                     bif (decide ((List.length x35) ≤ (List.length x35))) then 
                      some (Sum.inl ((Go.IntKind.wrap .i64 (v30 - (1 : Int))), (List.take (List.length x35) x35)))
                     else none
                    else none
                   else none
                  else none
                 else
                  outO (bif (decide ((List.length v31) ≤ (List.length v31))) then 
                   some (Sum.inl (List.take (List.length v31) v31))
                  else none)) ((Go.IntKind.wrap .i64 (x28.2 - (1 : Int))), (List.take (List.length v27) v27))
               else none
              else none) fun v37 =>
             bif (decide ((List.length v37) ≤ (List.length v37))) then 
              some (Sum.inl ((Go.IntKind.wrap .i64 (v26 + (1 : Int))), (List.take (List.length v37) v37)))
             else none
            else
             outO (bif (decide ((List.length v27) ≤ (List.length v27))) then 
              some (Sum.inl (List.take (List.length v27) v27))
             else none)) ((0 : Int), (List.take (List.length x24) x24))
          else none) fun v39 =>
         bif (decide ((List.length v39) ≤ (List.length v39))) then 
          some (Sum.inl (List.take (List.length v39) v39))
         else none) fun v40 =>
        bif (decide ((List.length v40) ≤ (List.length v40))) then 
         some ((List.take (List.length v40) v40), (0 : Int))
        else none
       else none
      else none
     else none
noncomputable def cons12 : List (Nat × CE) := [(14, ⟨[(.tmp 0 false [(.dat (.list (.int .u8)))])], [(.tmp 0 false [(.dat (.int .u32))])], journal_Check⟩), (15, ⟨[(.tmp 0 false [(.dat (.list (.int .u8)))])], [(.tmp 0 false [(.dat (.int .u32))])], dialtoneref20_Check⟩), (34, ⟨[(.tmp 0 false [(.dat (.int .i64))]), (.tmp 1 false [(.dat (.int .i64))])], [(.tmp 0 false [(.dat (.list (.int .u8)))])], dialtoneref20_number⟩)]
theorem cons12_ok : ConL Try.prog cons12 := ⟨con14, con15, con34, trivial⟩
theorem con12 : ConOk Try.prog 12 ⟨[(.tmp 0 false [(.dat (.int .i64))]), (.tmp 1 true [(.dat (.int .u8)), (.dat (.list (.int .u8)))])], [(.tmp 0 false [(.dat (.list (.int .u8)))]), (.tmp 1 false [(.dat (.int .u8))])], journal_Encode⟩ :=
  tree_ok (plan := planOf plan12) (eg := egNo) KK tabL_ok (conOf_ok cons12_ok) Try.func12 (by kernel_rfl) (by kernel_rfl) 10000 (fun a r h => Eq.trans (show _ = journal_Encode a from by kernel_rfl) h)
/-! ### dialtone/dialtoneref20.Encode -/
def plan13 : List (Nat × PL) := []
noncomputable def dialtoneref20_Encode : (Int × (Int × (List Int))) → Option ((List Int) × Int) := fun (a1, (a2, a3)) =>
  bif (decide (a1 < (0 : Int))) then
   some (([] : List Int), (3 : Int))
  else
   bif (decide (a1 ≥ (1048576 : Int))) then
    some (([] : List Int), (3 : Int))
   else
    bif (decide ((((List.length a3) : Nat) : Int) > (4096 : Int))) then
     some (([] : List Int), (4 : Int))
    else
     bindO (dialtoneref20_number (a1, (4 : Int))) fun x4 =>
     bif (decide ((2 = 0) ∨ ((List.length x4) ≠ 0))) then 
      bif (decide (((List.length (((167 : Int) :: (a2 :: ([] : List Int))) ++ x4)) * 1) ≤ 140737488355328)) then 
       bindO (some (((167 : Int) :: (a2 :: ([] : List Int))) ++ x4)) fun x5 =>
       bindO (dialtoneref20_number ((((List.length a3) : Nat) : Int), (2 : Int))) fun x6 =>
       bif (decide ((List.length x5) ≤ (List.length x5))) then 
        bif (decide (((List.length ((List.take (List.length x5) x5) ++ x6)) * 1) ≤ 140737488355328)) then 
         bindO (some ((List.take (List.length x5) x5) ++ x6)) fun x7 =>
         bindO (dialtoneref20_number ((Go.IntKind.wrap .i64 ((65535 : Int) - (((List.length a3) : Nat) : Int))), (2 : Int))) fun x9 =>
         bif (decide ((List.length x7) ≤ (List.length x7))) then 
          bif (decide (((List.length ((List.take (List.length x7) x7) ++ x9)) * 1) ≤ 140737488355328)) then 
           bindO (some ((List.take (List.length x7) x7) ++ x9)) fun x10 =>
           bif (decide ((List.length x10) ≤ (List.length x10))) then 
            bif (decide (((List.length ((List.take (List.length x10) x10) ++ a3)) * 1) ≤ 140737488355328)) then 
             bindO (some ((List.take (List.length x10) x10) ++ a3)) fun x11 =>
             bif (decide ((List.length x11) ≤ (List.length x11))) then 
              bindO (dialtoneref20_Check (List.take (List.length x11) x11)) fun x12 =>
              bindO (dialtoneref20_number ((Go.IntKind.wrap .i64 x12), (4 : Int))) fun x14 =>
              bif (decide ((List.length x11) ≤ (List.length x11))) then 
               bif (decide (((List.length ((List.take (List.length x11) x11) ++ x14)) * 1) ≤ 140737488355328)) then 
                bindO (some ((List.take (List.length x11) x11) ++ x14)) fun x15 =>
                bif (decide ((List.length x15) ≤ (List.length x15))) then 
                 some ((List.take (List.length x15) x15), (0 : Int))
                else none
               else none
              else none
             else none
            else none
           else none
          else none
         else none
        else none
       else none
      else none
     else none
noncomputable def cons13 : List (Nat × CE) := [(14, ⟨[(.tmp 0 false [(.dat (.list (.int .u8)))])], [(.tmp 0 false [(.dat (.int .u32))])], journal_Check⟩), (15, ⟨[(.tmp 0 false [(.dat (.list (.int .u8)))])], [(.tmp 0 false [(.dat (.int .u32))])], dialtoneref20_Check⟩), (34, ⟨[(.tmp 0 false [(.dat (.int .i64))]), (.tmp 1 false [(.dat (.int .i64))])], [(.tmp 0 false [(.dat (.list (.int .u8)))])], dialtoneref20_number⟩), (12, ⟨[(.tmp 0 false [(.dat (.int .i64))]), (.tmp 1 true [(.dat (.int .u8)), (.dat (.list (.int .u8)))])], [(.tmp 0 false [(.dat (.list (.int .u8)))]), (.tmp 1 false [(.dat (.int .u8))])], journal_Encode⟩)]
theorem cons13_ok : ConL Try.prog cons13 := ⟨con14, con15, con34, con12, trivial⟩
theorem con13 : ConOk Try.prog 13 ⟨[(.tmp 0 false [(.dat (.int .i64))]), (.tmp 1 true [(.dat (.int .u8)), (.dat (.list (.int .u8)))])], [(.tmp 0 false [(.dat (.list (.int .u8)))]), (.tmp 1 false [(.dat (.int .u8))])], dialtoneref20_Encode⟩ :=
  tree_ok (plan := planOf plan13) (eg := egNo) KK tabL_ok (conOf_ok cons13_ok) Try.func13 (by kernel_rfl) (by kernel_rfl) 10000 (fun a r h => Eq.trans (show _ = dialtoneref20_Encode a from by kernel_rfl) h)
/-! ### dialtone/journal.begins -/
def plan39 : List (Nat × PL) := [(134480385, (.carry [.tmp 5 false [(.dat (.int .i64))]])), (4731607904491797741599, (.carry [.tmp 0 false [(.own 10000005 5 (.int .u8))]])), (1240362622515097827173728769, (.carry [.tmp 0 false [(.own 10000004 5 (.int .u8))]])), (35253226045953, (.carry [])), (166478653090098076060994536529463302, (.carry [.tmp 10 false [(.dat (.int .i64))], .tmp 0 false [(.own 10000003 5 (.int .u8))]])), (4731607904558101301254, (.carry [.tmp 29 false [(.dat (.int .i64))]])), (22344386578253143066077876113397569454080513, (.carry [.tmp 0 false [(.own 10000002 5 (.int .u8))], .dead 10000003])), (22344386578566252773887596188391760879421441, (.carry [.tmp 42 false [(.dat .bool)]])), (786173211465962244325487778989524158473538542178356430854, (.carry [.tmp 7 false [(.dat (.int .i64))], .tmp 0 false [(.own 10000001 5 (.int .u8))], .dead 10000003])), (5857446875251671767157990015209769763975054231041, (.carry [.tmp 46 false [(.dat .bool)]]))]
noncomputable def journal_begins : ((List Int) × Int) → Option Bool := fun (a1, a2) =>
  joinO (bif (decide ((((List.length a1) : Nat) : Int) ≥ (8 : Int))) then
    bif (decide (((0 : Int) ≤ (6 : Int)) ∧ ((6 : Int) < (((List.length a1) : Nat) : Int)))) then 
     bindO a1[6]? fun x3 =>
     bif (decide (((0 : Int) ≤ (7 : Int)) ∧ ((7 : Int) < (((List.length a1) : Nat) : Int)))) then 
      bindO a1[7]? fun x6 =>
      bindO (some (Go.IntKind.wrap .i64 (((BitVec.toNat ((BitVec.ofInt 64 (Go.IntKind.wrap .i64 ((Go.IntKind.wrap .i64 x3) * (256 : Int)))) ||| (BitVec.ofInt 64 (Go.IntKind.wrap .i64 x6)))) : Nat) : Int))) fun x8 =>
      bif (decide (x8 > (4096 : Int))) then
       outO (some Bool.false)
      else
       some (Sum.inl x8)
     else none
    else none
   else
    some (Sum.inl (0 : Int))) fun v9 =>
  joinO (joinO (loopO (fun (v14, v15) =>
     bif (decide (v14 < (5 : Int))) then
      joinO (bif (decide (((0 : Int) ≤ v14) ∧ (v14 < (5 : Int)))) then 
        bindO (((167 : Int), (1 : Int)) :: (((0 : Int), (1 : Int)) :: (((Go.IntKind.wrap .u32 a2), (4 : Int)) :: (((Go.IntKind.wrap .u32 v9), (2 : Int)) :: (((Go.IntKind.wrap .u32 (Go.IntKind.wrap .i64 ((65535 : Int) - v9))), (2 : Int)) :: ([] : List (Int × Int)))))))[(Int.toNat v14)]? fun x16 =>
        bif (decide ((List.length v15) ≤ (List.length v15))) then 
         loopO (fun (v18, v19) =>
          bif (decide (v18 ≥ (0 : Int))) then
           bindO (some (Go.IntKind.wrap .i64 ((8 : Int) * v18))) fun x20 =>
           bif (decide ((0 : Int) ≤ x20)) then 
            bindO (some (Int.fdiv x16.1 ((2 : Int) ^ (Min.min (Int.toNat x20) 32)))) fun x21 =>
            bif (decide ((List.length v19) ≤ (List.length v19))) then 
             bif (decide (((List.length ((List.take (List.length v19) v19) ++ ((Go.IntKind.wrap .u8 x21) :: ([] : List Int)))) * 1) ≤ 140737488355328)) then 
              bindO (some ((List.take (List.length v19) v19) ++ ((Go.IntKind.wrap .u8 x21) :: ([] : List Int)))) fun x23 =>
              bif (decide ((List.length x23) ≤ (List.length x23))) then 
               some (Sum.inl ((Go.IntKind.wrap .i64 (v18 - (1 : Int))), (List.take (List.length x23) x23)))
              else none
             else none
            else none
           else none
          else
           outO (bif (decide ((List.length v19) ≤ (List.length v19))) then 
            some (Sum.inl (List.take (List.length v19) v19))
           else none)) ((Go.IntKind.wrap .i64 (x16.2 - (1 : Int))), (List.take (List.length v15) v15))
        else none
       else none) fun v25 =>
      bif (decide ((List.length v25) ≤ (List.length v25))) then 
       some (Sum.inl ((Go.IntKind.wrap .i64 (v14 + (1 : Int))), (List.take (List.length v25) v25)))
      else none
     else
      outO (bif (decide ((List.length v15) ≤ (List.length v15))) then 
       some (Sum.inl (List.take (List.length v15) v15))
      else none)) ((0 : Int), ([] : List Int))) fun v27 =>
   bif (decide ((List.length v27) ≤ (List.length v27))) then 
    some (Sum.inl (List.take (List.length v27) v27))
   else none) fun v28 =>
  joinO (loopO (fun v29 =>
    bif (decide (v29 < (minA (((List.length a1) : Nat) : Int) (10 : Int)))) then
     joinO (bif (decide (v29 = (1 : Int))) then
       some (Sum.inl Bool.true)
      else
       bif (decide (v29 = (6 : Int))) then
        some (Sum.inl Bool.true)
       else
        some (Sum.inl (decide (v29 = (7 : Int))))) fun v30 =>
     bif v30 then
      some (Sum.inl (Go.IntKind.wrap .i64 (v29 + (1 : Int))))
     else
      joinO (bif (decide (v29 = (8 : Int))) then
        some (Sum.inl Bool.true)
       else
        some (Sum.inl (decide (v29 = (9 : Int))))) fun v32 =>
      bif v32 then
       bif (decide (((0 : Int) ≤ v29) ∧ (v29 < (((List.length a1) : Nat) : Int)))) then 
        bindO a1[(Int.toNat v29)]? fun x33 =>
        bindO (some (Go.IntKind.wrap .i64 (v29 - (2 : Int)))) fun x34 =>
        bif (decide (((0 : Int) ≤ x34) ∧ (x34 < (((List.length a1) : Nat) : Int)))) then 
         bindO a1[(Int.toNat x34)]? fun x35 =>
         bif (decide (x33 ≠ (Go.IntKind.wrap .u8 ((255 : Int) - x35)))) then
          outO (outO (some Bool.false))
         else
          some (Sum.inl (Go.IntKind.wrap .i64 (v29 + (1 : Int))))
        else none
       else none
      else
       bif (decide (((0 : Int) ≤ v29) ∧ (v29 < (((List.length a1) : Nat) : Int)))) then 
        bindO a1[(Int.toNat v29)]? fun x38 =>
        bif (decide (((0 : Int) ≤ v29) ∧ (v29 < (((List.length v28) : Nat) : Int)))) then 
         bindO v28[(Int.toNat v29)]? fun x39 =>
         bif (decide (x38 ≠ x39)) then
          outO (outO (some Bool.false))
         else
          some (Sum.inl (Go.IntKind.wrap .i64 (v29 + (1 : Int))))
        else none
       else none
    else
     outO (some (Sum.inl ()))) (0 : Int)) fun _ =>
  some Bool.true
noncomputable def cons39 : List (Nat × CE) := [(14, ⟨[(.tmp 0 false [(.dat (.list (.int .u8)))])], [(.tmp 0 false [(.dat (.int .u32))])], journal_Check⟩), (15, ⟨[(.tmp 0 false [(.dat (.list (.int .u8)))])], [(.tmp 0 false [(.dat (.int .u32))])], dialtoneref20_Check⟩), (34, ⟨[(.tmp 0 false [(.dat (.int .i64))]), (.tmp 1 false [(.dat (.int .i64))])], [(.tmp 0 false [(.dat (.list (.int .u8)))])], dialtoneref20_number⟩), (12, ⟨[(.tmp 0 false [(.dat (.int .i64))]), (.tmp 1 true [(.dat (.int .u8)), (.dat (.list (.int .u8)))])], [(.tmp 0 false [(.dat (.list (.int .u8)))]), (.tmp 1 false [(.dat (.int .u8))])], journal_Encode⟩), (13, ⟨[(.tmp 0 false [(.dat (.int .i64))]), (.tmp 1 true [(.dat (.int .u8)), (.dat (.list (.int .u8)))])], [(.tmp 0 false [(.dat (.list (.int .u8)))]), (.tmp 1 false [(.dat (.int .u8))])], dialtoneref20_Encode⟩)]
theorem cons39_ok : ConL Try.prog cons39 := ⟨con14, con15, con34, con12, con13, trivial⟩
theorem con39 : ConOk Try.prog 39 ⟨[(.tmp 0 false [(.dat (.list (.int .u8)))]), (.tmp 1 false [(.dat (.int .i64))])], [(.tmp 0 false [(.dat .bool)])], journal_begins⟩ :=
  tree_ok (plan := planOf plan39) (eg := egNo) KK tabL_ok (conOf_ok cons39_ok) Try.func39 (by kernel_rfl) (by kernel_rfl) 10000 (fun a r h => Eq.trans (show _ = journal_begins a from by kernel_rfl) h)
/-! ### dialtone/dialtoneref20.wrong -/
def plan40 : List (Nat × PL) := [(134480385, (.carry [])), (18049651601311750, (.carry [.tmp 6 false [(.dat (.int .i64))]]))]
noncomputable def dialtoneref20_wrong : ((List Int) × Int) → Option Bool := fun (a1, a2) =>
  bindO (dialtoneref20_number (a2, (4 : Int))) fun x3 =>
  bif (decide ((2 = 0) ∨ ((List.length x3) ≠ 0))) then 
   bif (decide (((List.length (((167 : Int) :: ((0 : Int) :: ([] : List Int))) ++ x3)) * 1) ≤ 140737488355328)) then 
    bindO (some (((167 : Int) :: ((0 : Int) :: ([] : List Int))) ++ x3)) fun x4 =>
    joinO (loopO (fun v5 =>
      bif (decide (v5 < (6 : Int))) then
       bif (decide (v5 < (((List.length a1) : Nat) : Int))) then
        bif (decide (v5 ≠ (1 : Int))) then
         bif (decide (((0 : Int) ≤ v5) ∧ (v5 < (((List.length a1) : Nat) : Int)))) then 
          bindO a1[(Int.toNat v5)]? fun x6 =>
          bif (decide (((0 : Int) ≤ v5) ∧ (v5 < (((List.length x4) : Nat) : Int)))) then 
           bindO x4[(Int.toNat v5)]? fun x7 =>
           bif (decide (x6 ≠ x7)) then
            outO (outO (some Bool.true))
           else
            some (Sum.inl (Go.IntKind.wrap .i64 (v5 + (1 : Int))))
          else none
         else none
        else
         some (Sum.inl (Go.IntKind.wrap .i64 (v5 + (1 : Int))))
       else
        outO (some (Sum.inl ()))
      else
       outO (some (Sum.inl ()))) (0 : Int)) fun _ =>
    bif (decide ((((List.length a1) : Nat) : Int) ≥ (8 : Int))) then
     bif (decide (((0 : Int) ≤ (6 : Int)) ∧ ((6 : Int) < (((List.length a1) : Nat) : Int)))) then 
      bindO a1[6]? fun x10 =>
      bif (decide (((0 : Int) ≤ (7 : Int)) ∧ ((7 : Int) < (((List.length a1) : Nat) : Int)))) then 
       bindO a1[7]? fun x13 =>
       bif (decide ((Go.IntKind.wrap .i64 ((Go.IntKind.wrap .i64 ((256 : Int) * (Go.IntKind.wrap .i64 x10))) + (Go.IntKind.wrap .i64 x13))) > (4096 : Int))) then
        some Bool.true
       else
        bif (decide ((((List.length a1) : Nat) : Int) ≥ (9 : Int))) then
         bif (decide (((0 : Int) ≤ (8 : Int)) ∧ ((8 : Int) < (((List.length a1) : Nat) : Int)))) then 
          bindO a1[8]? fun x16 =>
          bif (decide (((0 : Int) ≤ (6 : Int)) ∧ ((6 : Int) < (((List.length a1) : Nat) : Int)))) then 
           bindO a1[6]? fun x18 =>
           bif (decide ((Go.IntKind.wrap .i64 x16) ≠ (Go.IntKind.wrap .i64 ((255 : Int) - (Go.IntKind.wrap .i64 x18))))) then
            some Bool.true
           else
            bif (decide ((((List.length a1) : Nat) : Int) ≥ (10 : Int))) then
             bif (decide (((0 : Int) ≤ (9 : Int)) ∧ ((9 : Int) < (((List.length a1) : Nat) : Int)))) then 
              bindO a1[9]? fun x21 =>
              bif (decide (((0 : Int) ≤ (7 : Int)) ∧ ((7 : Int) < (((List.length a1) : Nat) : Int)))) then 
               bindO a1[7]? fun x23 =>
               some (decide ((Go.IntKind.wrap .i64 x21) ≠ (Go.IntKind.wrap .i64 ((255 : Int) - (Go.IntKind.wrap .i64 x23)))))
              else none
             else none
            else
             some Bool.false
          else none
         else none
        else
         bif (decide ((((List.length a1) : Nat) : Int) ≥ (10 : Int))) then
          bif (decide (((0 : Int) ≤ (9 : Int)) ∧ ((9 : Int) < (((List.length a1) : Nat) : Int)))) then 
           bindO a1[9]? fun x26 =>
           bif (decide (((0 : Int) ≤ (7 : Int)) ∧ ((7 : Int) < (((List.length a1) : Nat) : Int)))) then 
            bindO a1[7]? fun x28 =>
            some (decide ((Go.IntKind.wrap .i64 x26) ≠ (Go.IntKind.wrap .i64 ((255 : Int) - (Go.IntKind.wrap .i64 x28)))))
           else none
          else none
         else
          some Bool.false
      else none
     else none
    else
     bif (decide ((((List.length a1) : Nat) : Int) ≥ (9 : Int))) then
      bif (decide (((0 : Int) ≤ (8 : Int)) ∧ ((8 : Int) < (((List.length a1) : Nat) : Int)))) then 
       bindO a1[8]? fun x31 =>
       bif (decide (((0 : Int) ≤ (6 : Int)) ∧ ((6 : Int) < (((List.length a1) : Nat) : Int)))) then 
        bindO a1[6]? fun x33 =>
        bif (decide ((Go.IntKind.wrap .i64 x31) ≠ (Go.IntKind.wrap .i64 ((255 : Int) - (Go.IntKind.wrap .i64 x33))))) then
         some Bool.true
        else
         bif (decide ((((List.length a1) : Nat) : Int) ≥ (10 : Int))) then
          bif (decide (((0 : Int) ≤ (9 : Int)) ∧ ((9 : Int) < (((List.length a1) : Nat) : Int)))) then 
           bindO a1[9]? fun x36 =>
           bif (decide (((0 : Int) ≤ (7 : Int)) ∧ ((7 : Int) < (((List.length a1) : Nat) : Int)))) then 
            bindO a1[7]? fun x38 =>
            some (decide ((Go.IntKind.wrap .i64 x36) ≠ (Go.IntKind.wrap .i64 ((255 : Int) - (Go.IntKind.wrap .i64 x38)))))
           else none
          else none
         else
          some Bool.false
       else none
      else none
     else
      bif (decide ((((List.length a1) : Nat) : Int) ≥ (10 : Int))) then
       bif (decide (((0 : Int) ≤ (9 : Int)) ∧ ((9 : Int) < (((List.length a1) : Nat) : Int)))) then 
        bindO a1[9]? fun x41 =>
        bif (decide (((0 : Int) ≤ (7 : Int)) ∧ ((7 : Int) < (((List.length a1) : Nat) : Int)))) then 
         bindO a1[7]? fun x43 =>
         some (decide ((Go.IntKind.wrap .i64 x41) ≠ (Go.IntKind.wrap .i64 ((255 : Int) - (Go.IntKind.wrap .i64 x43)))))
        else none
       else none
      else
       some Bool.false
   else none
  else none
noncomputable def cons40 : List (Nat × CE) := [(14, ⟨[(.tmp 0 false [(.dat (.list (.int .u8)))])], [(.tmp 0 false [(.dat (.int .u32))])], journal_Check⟩), (15, ⟨[(.tmp 0 false [(.dat (.list (.int .u8)))])], [(.tmp 0 false [(.dat (.int .u32))])], dialtoneref20_Check⟩), (34, ⟨[(.tmp 0 false [(.dat (.int .i64))]), (.tmp 1 false [(.dat (.int .i64))])], [(.tmp 0 false [(.dat (.list (.int .u8)))])], dialtoneref20_number⟩), (12, ⟨[(.tmp 0 false [(.dat (.int .i64))]), (.tmp 1 true [(.dat (.int .u8)), (.dat (.list (.int .u8)))])], [(.tmp 0 false [(.dat (.list (.int .u8)))]), (.tmp 1 false [(.dat (.int .u8))])], journal_Encode⟩), (13, ⟨[(.tmp 0 false [(.dat (.int .i64))]), (.tmp 1 true [(.dat (.int .u8)), (.dat (.list (.int .u8)))])], [(.tmp 0 false [(.dat (.list (.int .u8)))]), (.tmp 1 false [(.dat (.int .u8))])], dialtoneref20_Encode⟩), (39, ⟨[(.tmp 0 false [(.dat (.list (.int .u8)))]), (.tmp 1 false [(.dat (.int .i64))])], [(.tmp 0 false [(.dat .bool)])], journal_begins⟩)]
theorem cons40_ok : ConL Try.prog cons40 := ⟨con14, con15, con34, con12, con13, con39, trivial⟩
theorem con40 : ConOk Try.prog 40 ⟨[(.tmp 0 false [(.dat (.list (.int .u8)))]), (.tmp 1 false [(.dat (.int .i64))])], [(.tmp 0 false [(.dat .bool)])], dialtoneref20_wrong⟩ :=
  tree_ok (plan := planOf plan40) (eg := egNo) KK tabL_ok (conOf_ok cons40_ok) Try.func40 (by kernel_rfl) (by kernel_rfl) 10000 (fun a r h => Eq.trans (show _ = dialtoneref20_wrong a from by kernel_rfl) h)
/-! ### dialtone/journal.joined -/
def plan37 : List (Nat × PL) := []
noncomputable def journal_joined : ((List Int) × (List Int)) → Option (List Int) := fun (a1, a2) =>
  bindO (some (Go.IntKind.wrap .i64 ((((List.length a1) : Nat) : Int) + (((List.length a2) : Nat) : Int)))) fun x3 =>
  bif (decide (((0 : Int) ≤ x3) ∧ ((x3 ≤ x3) ∧ (((x3 * (1 : Int)) ≤ (140737488355328 : Int)) ∧ (x3 ≤ (9223372036854775807 : Int)))))) then 
   bif (decide ((Int.toNat x3) ≤ (List.length (List.replicate (Int.toNat x3) (0 : Int))))) then 
    bif (decide (((0 : Int) ≤ (((List.length a1) : Nat) : Int)) ∧ ((((List.length a1) : Nat) : Int) ≤ (((Int.toNat x3) : Nat) : Int)))) then 
     bif (decide (((Int.toNat (((List.length a1) : Nat) : Int)) + ((Int.toNat x3) - (Int.toNat (((List.length a1) : Nat) : Int)))) ≤ (List.length (layL (List.replicate (Int.toNat x3) (0 : Int)) 0 (List.take (Int.toNat x3) a1))))) then 
      bif (decide ((Int.toNat x3) ≤ (List.length (layL (layL (List.replicate (Int.toNat x3) (0 : Int)) 0 (List.take (Int.toNat x3) a1)) (Int.toNat (((List.length a1) : Nat) : Int)) (List.take ((Int.toNat x3) - (Int.toNat (((List.length a1) : Nat) : Int))) a2))))) then 
       some (List.take (Int.toNat x3) (layL (layL (List.replicate (Int.toNat x3) (0 : Int)) 0 (List.take (Int.toNat x3) a1)) (Int.toNat (((List.length a1) : Nat) : Int)) (List.take ((Int.toNat x3) - (Int.toNat (((List.length a1) : Nat) : Int))) a2)))
      else none
     else none
    else none
   else none
  else none
noncomputable def cons37 : List (Nat × CE) := [(14, ⟨[(.tmp 0 false [(.dat (.list (.int .u8)))])], [(.tmp 0 false [(.dat (.int .u32))])], journal_Check⟩), (15, ⟨[(.tmp 0 false [(.dat (.list (.int .u8)))])], [(.tmp 0 false [(.dat (.int .u32))])], dialtoneref20_Check⟩), (34, ⟨[(.tmp 0 false [(.dat (.int .i64))]), (.tmp 1 false [(.dat (.int .i64))])], [(.tmp 0 false [(.dat (.list (.int .u8)))])], dialtoneref20_number⟩), (12, ⟨[(.tmp 0 false [(.dat (.int .i64))]), (.tmp 1 true [(.dat (.int .u8)), (.dat (.list (.int .u8)))])], [(.tmp 0 false [(.dat (.list (.int .u8)))]), (.tmp 1 false [(.dat (.int .u8))])], journal_Encode⟩), (13, ⟨[(.tmp 0 false [(.dat (.int .i64))]), (.tmp 1 true [(.dat (.int .u8)), (.dat (.list (.int .u8)))])], [(.tmp 0 false [(.dat (.list (.int .u8)))]), (.tmp 1 false [(.dat (.int .u8))])], dialtoneref20_Encode⟩), (39, ⟨[(.tmp 0 false [(.dat (.list (.int .u8)))]), (.tmp 1 false [(.dat (.int .i64))])], [(.tmp 0 false [(.dat .bool)])], journal_begins⟩), (40, ⟨[(.tmp 0 false [(.dat (.list (.int .u8)))]), (.tmp 1 false [(.dat (.int .i64))])], [(.tmp 0 false [(.dat .bool)])], dialtoneref20_wrong⟩)]
theorem cons37_ok : ConL Try.prog cons37 := ⟨con14, con15, con34, con12, con13, con39, con40, trivial⟩
theorem con37 : ConOk Try.prog 37 ⟨[(.tmp 0 false [(.dat (.list (.int .u8)))]), (.tmp 1 false [(.dat (.list (.int .u8)))])], [(.tmp 0 false [(.dat (.list (.int .u8)))])], journal_joined⟩ :=
  tree_ok (plan := planOf plan37) (eg := egNo) KK tabL_ok (conOf_ok cons37_ok) Try.func37 (by kernel_rfl) (by kernel_rfl) 10000 (fun a r h => Eq.trans (show _ = journal_joined a from by kernel_rfl) h)
/-! ### dialtone/dialtoneref20.copied -/
def plan38 : List (Nat × PL) := []
noncomputable def dialtoneref20_copied : (List Int) → Option (List Int) := fun a1 =>
  bif (decide (((List.length a1) * 1) ≤ 140737488355328)) then 
   bif (decide ((List.length a1) ≤ (List.length a1))) then 
    some (List.take (List.length a1) a1)
   else none
  else none
noncomputable def cons38 : List (Nat × CE) := [(14, ⟨[(.tmp 0 false [(.dat (.list (.int .u8)))])], [(.tmp 0 false [(.dat (.int .u32))])], journal_Check⟩), (15, ⟨[(.tmp 0 false [(.dat (.list (.int .u8)))])], [(.tmp 0 false [(.dat (.int .u32))])], dialtoneref20_Check⟩), (34, ⟨[(.tmp 0 false [(.dat (.int .i64))]), (.tmp 1 false [(.dat (.int .i64))])], [(.tmp 0 false [(.dat (.list (.int .u8)))])], dialtoneref20_number⟩), (12, ⟨[(.tmp 0 false [(.dat (.int .i64))]), (.tmp 1 true [(.dat (.int .u8)), (.dat (.list (.int .u8)))])], [(.tmp 0 false [(.dat (.list (.int .u8)))]), (.tmp 1 false [(.dat (.int .u8))])], journal_Encode⟩), (13, ⟨[(.tmp 0 false [(.dat (.int .i64))]), (.tmp 1 true [(.dat (.int .u8)), (.dat (.list (.int .u8)))])], [(.tmp 0 false [(.dat (.list (.int .u8)))]), (.tmp 1 false [(.dat (.int .u8))])], dialtoneref20_Encode⟩), (39, ⟨[(.tmp 0 false [(.dat (.list (.int .u8)))]), (.tmp 1 false [(.dat (.int .i64))])], [(.tmp 0 false [(.dat .bool)])], journal_begins⟩), (40, ⟨[(.tmp 0 false [(.dat (.list (.int .u8)))]), (.tmp 1 false [(.dat (.int .i64))])], [(.tmp 0 false [(.dat .bool)])], dialtoneref20_wrong⟩), (37, ⟨[(.tmp 0 false [(.dat (.list (.int .u8)))]), (.tmp 1 false [(.dat (.list (.int .u8)))])], [(.tmp 0 false [(.dat (.list (.int .u8)))])], journal_joined⟩)]
theorem cons38_ok : ConL Try.prog cons38 := ⟨con14, con15, con34, con12, con13, con39, con40, con37, trivial⟩
theorem con38 : ConOk Try.prog 38 ⟨[(.tmp 0 false [(.dat (.list (.int .u8)))])], [(.tmp 0 false [(.dat (.list (.int .u8)))])], dialtoneref20_copied⟩ :=
  tree_ok (plan := planOf plan38) (eg := egNo) KK tabL_ok (conOf_ok cons38_ok) Try.func38 (by kernel_rfl) (by kernel_rfl) 10000 (fun a r h => Eq.trans (show _ = dialtoneref20_copied a from by kernel_rfl) h)
/-! ### dialtone/journal.Valid -/
def plan27 : List (Nat × PL) := []
noncomputable def journal_Valid : ((List Int) × (Int × Int)) → Option Bool := fun (a1, (a2, a3)) =>
  bif (decide (a2 ≥ (0 : Int))) then
   bif (decide (a2 ≤ (((List.length a1) : Nat) : Int))) then
    bif (decide (a3 ≥ (0 : Int))) then
     some (decide (a3 ≤ (1048576 : Int)))
    else
     some Bool.false
   else
    some Bool.false
  else
   some Bool.false
noncomputable def cons27 : List (Nat × CE) := [(14, ⟨[(.tmp 0 false [(.dat (.list (.int .u8)))])], [(.tmp 0 false [(.dat (.int .u32))])], journal_Check⟩), (15, ⟨[(.tmp 0 false [(.dat (.list (.int .u8)))])], [(.tmp 0 false [(.dat (.int .u32))])], dialtoneref20_Check⟩), (34, ⟨[(.tmp 0 false [(.dat (.int .i64))]), (.tmp 1 false [(.dat (.int .i64))])], [(.tmp 0 false [(.dat (.list (.int .u8)))])], dialtoneref20_number⟩), (12, ⟨[(.tmp 0 false [(.dat (.int .i64))]), (.tmp 1 true [(.dat (.int .u8)), (.dat (.list (.int .u8)))])], [(.tmp 0 false [(.dat (.list (.int .u8)))]), (.tmp 1 false [(.dat (.int .u8))])], journal_Encode⟩), (13, ⟨[(.tmp 0 false [(.dat (.int .i64))]), (.tmp 1 true [(.dat (.int .u8)), (.dat (.list (.int .u8)))])], [(.tmp 0 false [(.dat (.list (.int .u8)))]), (.tmp 1 false [(.dat (.int .u8))])], dialtoneref20_Encode⟩), (39, ⟨[(.tmp 0 false [(.dat (.list (.int .u8)))]), (.tmp 1 false [(.dat (.int .i64))])], [(.tmp 0 false [(.dat .bool)])], journal_begins⟩), (40, ⟨[(.tmp 0 false [(.dat (.list (.int .u8)))]), (.tmp 1 false [(.dat (.int .i64))])], [(.tmp 0 false [(.dat .bool)])], dialtoneref20_wrong⟩), (37, ⟨[(.tmp 0 false [(.dat (.list (.int .u8)))]), (.tmp 1 false [(.dat (.list (.int .u8)))])], [(.tmp 0 false [(.dat (.list (.int .u8)))])], journal_joined⟩), (38, ⟨[(.tmp 0 false [(.dat (.list (.int .u8)))])], [(.tmp 0 false [(.dat (.list (.int .u8)))])], dialtoneref20_copied⟩)]
theorem cons27_ok : ConL Try.prog cons27 := ⟨con14, con15, con34, con12, con13, con39, con40, con37, con38, trivial⟩
theorem con27 : ConOk Try.prog 27 ⟨[(.tmp 0 true [(.dat (.list (.int .u8))), (.dat (.int .i64)), (.dat (.int .i64))])], [(.tmp 0 false [(.dat .bool)])], journal_Valid⟩ :=
  tree_ok (plan := planOf plan27) (eg := egNo) KK tabL_ok (conOf_ok cons27_ok) Try.func27 (by kernel_rfl) (by kernel_rfl) 10000 (fun a r h => Eq.trans (show _ = journal_Valid a from by kernel_rfl) h)
/-! ### dialtone/dialtoneref20.Valid -/
def plan28 : List (Nat × PL) := []
noncomputable def dialtoneref20_Valid : ((List Int) × (Int × Int)) → Option Bool := fun (a1, (a2, a3)) =>
  bif (decide (a2 ≥ (0 : Int))) then
   bif (decide (a2 ≤ (((List.length a1) : Nat) : Int))) then
    bif (decide (a3 ≥ (0 : Int))) then
     some (decide (a3 ≤ (1048576 : Int)))
    else
     some Bool.false
   else
    some Bool.false
  else
   some Bool.false
noncomputable def cons28 : List (Nat × CE) := [(14, ⟨[(.tmp 0 false [(.dat (.list (.int .u8)))])], [(.tmp 0 false [(.dat (.int .u32))])], journal_Check⟩), (15, ⟨[(.tmp 0 false [(.dat (.list (.int .u8)))])], [(.tmp 0 false [(.dat (.int .u32))])], dialtoneref20_Check⟩), (34, ⟨[(.tmp 0 false [(.dat (.int .i64))]), (.tmp 1 false [(.dat (.int .i64))])], [(.tmp 0 false [(.dat (.list (.int .u8)))])], dialtoneref20_number⟩), (12, ⟨[(.tmp 0 false [(.dat (.int .i64))]), (.tmp 1 true [(.dat (.int .u8)), (.dat (.list (.int .u8)))])], [(.tmp 0 false [(.dat (.list (.int .u8)))]), (.tmp 1 false [(.dat (.int .u8))])], journal_Encode⟩), (13, ⟨[(.tmp 0 false [(.dat (.int .i64))]), (.tmp 1 true [(.dat (.int .u8)), (.dat (.list (.int .u8)))])], [(.tmp 0 false [(.dat (.list (.int .u8)))]), (.tmp 1 false [(.dat (.int .u8))])], dialtoneref20_Encode⟩), (39, ⟨[(.tmp 0 false [(.dat (.list (.int .u8)))]), (.tmp 1 false [(.dat (.int .i64))])], [(.tmp 0 false [(.dat .bool)])], journal_begins⟩), (40, ⟨[(.tmp 0 false [(.dat (.list (.int .u8)))]), (.tmp 1 false [(.dat (.int .i64))])], [(.tmp 0 false [(.dat .bool)])], dialtoneref20_wrong⟩), (37, ⟨[(.tmp 0 false [(.dat (.list (.int .u8)))]), (.tmp 1 false [(.dat (.list (.int .u8)))])], [(.tmp 0 false [(.dat (.list (.int .u8)))])], journal_joined⟩), (38, ⟨[(.tmp 0 false [(.dat (.list (.int .u8)))])], [(.tmp 0 false [(.dat (.list (.int .u8)))])], dialtoneref20_copied⟩), (27, ⟨[(.tmp 0 true [(.dat (.list (.int .u8))), (.dat (.int .i64)), (.dat (.int .i64))])], [(.tmp 0 false [(.dat .bool)])], journal_Valid⟩)]
theorem cons28_ok : ConL Try.prog cons28 := ⟨con14, con15, con34, con12, con13, con39, con40, con37, con38, con27, trivial⟩
theorem con28 : ConOk Try.prog 28 ⟨[(.tmp 0 true [(.dat (.list (.int .u8))), (.dat (.int .i64)), (.dat (.int .i64))])], [(.tmp 0 false [(.dat .bool)])], dialtoneref20_Valid⟩ :=
  tree_ok (plan := planOf plan28) (eg := egNo) KK tabL_ok (conOf_ok cons28_ok) Try.func28 (by kernel_rfl) (by kernel_rfl) 10000 (fun a r h => Eq.trans (show _ = dialtoneref20_Valid a from by kernel_rfl) h)
/-! ### dialtone/dialtoneref20.One -/
def plan36 : List (Nat × PL) := [(1240362622532514091484054017, (.carry [])), (166478653092435647486973878257059846, (.carry [.tmp 11 false [(.dat (.int .i64))]]))]
noncomputable def dialtoneref20_One : ((List Int) × Int) → Option ((Int × (List Int)) × (Int × Int)) := fun (a1, a2) =>
  bif (decide (a2 ≥ (1048576 : Int))) then
   some (((0 : Int), ([] : List Int)), ((0 : Int), (5 : Int)))
  else
   bindO (dialtoneref20_wrong (a1, a2)) fun x3 =>
   bif x3 then
    some (((0 : Int), ([] : List Int)), ((0 : Int), (5 : Int)))
   else
    bif (decide ((((List.length a1) : Nat) : Int) < (14 : Int))) then
     some (((0 : Int), ([] : List Int)), ((0 : Int), (6 : Int)))
    else
     bif (decide (((0 : Int) ≤ (6 : Int)) ∧ ((6 : Int) < (((List.length a1) : Nat) : Int)))) then 
      bindO a1[6]? fun x4 =>
      bif (decide (((0 : Int) ≤ (7 : Int)) ∧ ((7 : Int) < (((List.length a1) : Nat) : Int)))) then 
       bindO a1[7]? fun x7 =>
       bindO (some (Go.IntKind.wrap .i64 ((Go.IntKind.wrap .i64 ((256 : Int) * (Go.IntKind.wrap .i64 x4))) + (Go.IntKind.wrap .i64 x7)))) fun x9 =>
       bif (decide ((((List.length a1) : Nat) : Int) < (Go.IntKind.wrap .i64 ((14 : Int) + x9)))) then
        some (((0 : Int), ([] : List Int)), ((0 : Int), (6 : Int)))
       else
        bif (decide (((0 : Int) ≤ (1 : Int)) ∧ ((1 : Int) < (((List.length a1) : Nat) : Int)))) then 
         bindO a1[1]? fun x11 =>
         bindO (some (Go.IntKind.wrap .i64 ((10 : Int) + x9))) fun x12 =>
         bif ((decide (((0 : Int) ≤ x12) ∧ (x12 ≤ (((List.length a1) : Nat) : Int)))) && (decide (((0 : Int) ≤ (10 : Int)) ∧ ((10 : Int) ≤ (((Int.toNat x12) : Nat) : Int))))) then 
          bindO (some (List.take ((Int.toNat x12) - 10) (List.drop 10 a1))) fun x13 =>
          bif (decide (((List.length x13) * 1) ≤ 140737488355328)) then 
           bif (decide ((List.length x13) ≤ (List.length x13))) then 
            bindO (dialtoneref20_Encode (a2, (x11, (List.take (List.length x13) x13)))) fun (x16, x17) =>
            joinO (loopO (fun v18 =>
              bif (decide (v18 < (Go.IntKind.wrap .i64 ((14 : Int) + x9)))) then
               bif (decide (((0 : Int) ≤ v18) ∧ (v18 < (((List.length a1) : Nat) : Int)))) then 
                bindO a1[(Int.toNat v18)]? fun x20 =>
                bif (decide (((0 : Int) ≤ v18) ∧ (v18 < (((List.length x16) : Nat) : Int)))) then 
                 bindO x16[(Int.toNat v18)]? fun x21 =>
                 bif (decide (x20 ≠ x21)) then
                  outO (outO (some (((0 : Int), ([] : List Int)), ((0 : Int), (11 : Int)))))
                 else
                  some (Sum.inl (Go.IntKind.wrap .i64 (v18 + (1 : Int))))
                else none
               else none
              else
               outO (some (Sum.inl ()))) (0 : Int)) fun _ =>
            bif (decide ((List.length x13) ≤ (List.length x13))) then 
             some ((x11, (List.take (List.length x13) x13)), ((Go.IntKind.wrap .i64 ((14 : Int) + x9)), (0 : Int)))
            else none
           else none
          else none
         else none
        else none
      else none
     else none
noncomputable def cons36 : List (Nat × CE) := [(14, ⟨[(.tmp 0 false [(.dat (.list (.int .u8)))])], [(.tmp 0 false [(.dat (.int .u32))])], journal_Check⟩), (15, ⟨[(.tmp 0 false [(.dat (.list (.int .u8)))])], [(.tmp 0 false [(.dat (.int .u32))])], dialtoneref20_Check⟩), (34, ⟨[(.tmp 0 false [(.dat (.int .i64))]), (.tmp 1 false [(.dat (.int .i64))])], [(.tmp 0 false [(.dat (.list (.int .u8)))])], dialtoneref20_number⟩), (12, ⟨[(.tmp 0 false [(.dat (.int .i64))]), (.tmp 1 true [(.dat (.int .u8)), (.dat (.list (.int .u8)))])], [(.tmp 0 false [(.dat (.list (.int .u8)))]), (.tmp 1 false [(.dat (.int .u8))])], journal_Encode⟩), (13, ⟨[(.tmp 0 false [(.dat (.int .i64))]), (.tmp 1 true [(.dat (.int .u8)), (.dat (.list (.int .u8)))])], [(.tmp 0 false [(.dat (.list (.int .u8)))]), (.tmp 1 false [(.dat (.int .u8))])], dialtoneref20_Encode⟩), (39, ⟨[(.tmp 0 false [(.dat (.list (.int .u8)))]), (.tmp 1 false [(.dat (.int .i64))])], [(.tmp 0 false [(.dat .bool)])], journal_begins⟩), (40, ⟨[(.tmp 0 false [(.dat (.list (.int .u8)))]), (.tmp 1 false [(.dat (.int .i64))])], [(.tmp 0 false [(.dat .bool)])], dialtoneref20_wrong⟩), (37, ⟨[(.tmp 0 false [(.dat (.list (.int .u8)))]), (.tmp 1 false [(.dat (.list (.int .u8)))])], [(.tmp 0 false [(.dat (.list (.int .u8)))])], journal_joined⟩), (38, ⟨[(.tmp 0 false [(.dat (.list (.int .u8)))])], [(.tmp 0 false [(.dat (.list (.int .u8)))])], dialtoneref20_copied⟩), (27, ⟨[(.tmp 0 true [(.dat (.list (.int .u8))), (.dat (.int .i64)), (.dat (.int .i64))])], [(.tmp 0 false [(.dat .bool)])], journal_Valid⟩), (28, ⟨[(.tmp 0 true [(.dat (.list (.int .u8))), (.dat (.int .i64)), (.dat (.int .i64))])], [(.tmp 0 false [(.dat .bool)])], dialtoneref20_Valid⟩)]
theorem cons36_ok : ConL Try.prog cons36 := ⟨con14, con15, con34, con12, con13, con39, con40, con37, con38, con27, con28, trivial⟩
theorem con36 : ConOk Try.prog 36 ⟨[(.tmp 0 false [(.dat (.list (.int .u8)))]), (.tmp 1 false [(.dat (.int .i64))])], [(.tmp 0 true [(.dat (.int .u8)), (.dat (.list (.int .u8)))]), (.tmp 1 false [(.dat (.int .i64))]), (.tmp 2 false [(.dat (.int .u8))])], dialtoneref20_One⟩ :=
  tree_ok (plan := planOf plan36) (eg := egNo) KK tabL_ok (conOf_ok cons36_ok) Try.func36 (by kernel_rfl) (by kernel_rfl) 10000 (fun a r h => Eq.trans (show _ = dialtoneref20_One a from by kernel_rfl) h)
/-! ### dialtone/journal.Scan -/
def plan18 : List (Nat × PL) := [(68853957121, (.carry [.tmp 6 false [(.own 10000002 24 (.pair (.int .u8) (.list (.int .u8))))], .mix 5 [(.dat (.list (.int .u8))), (.dat (.int .i64))]])), (18049651735267334, (.carry [.tmp 6 false [(.own 10000001 24 (.pair (.int .u8) (.list (.int .u8))))], .mix 5 [(.dat (.list (.int .u8))), (.dat (.int .i64))]])), (635065662727478061920772423698, (.carry [.tmp 0 true [(.dat (.int .u8)), (.dat (.list (.int .u8)))], .tmp 1 false [(.dat (.int .u8))], .mix 5 [(.dat (.list (.int .u8))), (.dat (.int .i64))]])), (1535494553643848147957046146350893561080790863294234647, (.carry [.tmp 0 false [(.own 10000007 5 (.int .u8))]])), (402520684270412928898051904989008641675962840067403847303681, (.carry [.tmp 0 false [(.own 10000006 5 (.int .u8))]])), (54025411715780160938522070313696604858113844606274311243558855903238, (.carry [.tmp 10 false [(.dat (.int .i64))], .tmp 0 false [(.own 10000005 5 (.int .u8))]])), (7251168014756594948642779955360605585369802588399192599875324273611992465921, (.carry [.tmp 0 false [(.own 10000004 5 (.int .u8))], .dead 10000005])), (255127793509833283213226307541386370055522207196370380466337639895518932455627391984994310, (.carry [.tmp 7 false [(.dat (.int .i64))], .tmp 0 false [(.own 10000003 5 (.int .u8))], .dead 10000005]))]
noncomputable def journal_Scan : (List Int) → Option ((List (Int × (List Int))) × (Int × Int)) := fun a1 =>
  joinO (loopO (fun (v2, (v3, v4)) =>
    bif (decide (v4 < (((List.length a1) : Nat) : Int))) then
     bif (decide ((((List.length v2) : Nat) : Int) ≥ (1048576 : Int))) then
      outO (outO (bif (decide ((List.length v2) ≤ (List.length v2))) then 
       some ((List.take (List.length v2) v2), (v4, (5 : Int)))
      else none))
     else
      joinO (bif ((decide (((0 : Int) ≤ (((List.length v3) : Nat) : Int)) ∧ ((((List.length v3) : Nat) : Int) ≤ (((List.length v3) : Nat) : Int)))) && ((decide (((0 : Int) ≤ (((List.length v3) : Nat) : Int)) ∧ ((((List.length v3) : Nat) : Int) ≤ (((Int.toNat (((List.length v3) : Nat) : Int)) : Nat) : Int)))) && (decide (((0 : Int) ≤ v4) ∧ (v4 ≤ (((Int.toNat (((List.length v3) : Nat) : Int)) : Nat) : Int)))))) then 
        bindO (some (List.take ((Int.toNat (((List.length v3) : Nat) : Int)) - (Int.toNat v4)) (List.drop (Int.toNat v4) v3))) fun x5 =>
        bindO (journal_begins (x5, (((List.length v2) : Nat) : Int))) fun x6 =>
        bif (!x6) then
         some (Sum.inl (((0 : Int), ([] : List Int)), ((5 : Int), (v3, v4))))
        else
         bif (decide ((((List.length x5) : Nat) : Int) < (10 : Int))) then
          some (Sum.inl (((0 : Int), ([] : List Int)), ((6 : Int), (v3, v4))))
         else
          bif (decide (((0 : Int) ≤ (6 : Int)) ∧ ((6 : Int) < (((List.length x5) : Nat) : Int)))) then 
           bindO x5[6]? fun x7 =>
           bif (decide (((0 : Int) ≤ (7 : Int)) ∧ ((7 : Int) < (((List.length x5) : Nat) : Int)))) then 
            bindO x5[7]? fun x10 =>
            bindO (some (Go.IntKind.wrap .i64 (((BitVec.toNat ((BitVec.ofInt 64 (Go.IntKind.wrap .i64 ((Go.IntKind.wrap .i64 x7) * (256 : Int)))) ||| (BitVec.ofInt 64 (Go.IntKind.wrap .i64 x10)))) : Nat) : Int))) fun x12 =>
            bindO (some (Go.IntKind.wrap .i64 ((10 : Int) + x12))) fun x13 =>
            bif (decide ((((List.length x5) : Nat) : Int) < (Go.IntKind.wrap .i64 (x13 + (4 : Int))))) then
             some (Sum.inl (((0 : Int), ([] : List Int)), ((6 : Int), (v3, v4))))
            else
             bif ((decide (((0 : Int) ≤ x13) ∧ (x13 ≤ (((List.length x5) : Nat) : Int)))) && (decide (((0 : Int) ≤ x13) ∧ (x13 ≤ (((Int.toNat x13) : Nat) : Int))))) then 
              bindO (journal_Check (List.take (Int.toNat x13) x5)) fun x16 =>
              joinO (joinO (loopO (fun (v17, v18) =>
                 bif (decide (v17 < (1 : Int))) then
                  joinO (bif (decide (((0 : Int) ≤ v17) ∧ (v17 < (1 : Int)))) then 
                    bindO ((x16, (4 : Int)) :: ([] : List (Int × Int)))[(Int.toNat v17)]? fun x19 =>
                    bif (decide ((List.length v18) ≤ (List.length v18))) then 
                     loopO (fun (v21, v22) =>
                      bif (decide (v21 ≥ (0 : Int))) then
                       bindO (some (Go.IntKind.wrap .i64 ((8 : Int) * v21))) fun x23 =>
                       bif (decide ((0 : Int) ≤ x23)) then 
                        bindO (some (Int.fdiv x19.1 ((2 : Int) ^ (Min.min (Int.toNat x23) 32)))) fun x24 =>
                        bif (decide ((List.length v22) ≤ (List.length v22))) then 
                         bif (decide (((List.length ((List.take (List.length v22) v22) ++ ((Go.IntKind.wrap .u8 x24) :: ([] : List Int)))) * 1) ≤ 140737488355328)) then 
                          bindO (some ((List.take (List.length v22) v22) ++ ((Go.IntKind.wrap .u8 x24) :: ([] : List Int)))) fun x26 =>
                          bif (decide ((List.length x26) ≤ (List.length x26))) then 
                           some (Sum.inl ((Go.IntKind.wrap .i64 (v21 - (1 : Int))), (List.take (List.length x26) x26)))
                          else none
                         else none
                        else none
                       else none
                      else
                       outO (bif (decide ((List.length v22) ≤ (List.length v22))) then 
                        some (Sum.inl (List.take (List.length v22) v22))
                       else none)) ((Go.IntKind.wrap .i64 (x19.2 - (1 : Int))), (List.take (List.length v18) v18))
                    else none
                   else none) fun v28 =>
                  bif (decide ((List.length v28) ≤ (List.length v28))) then 
                   some (Sum.inl ((Go.IntKind.wrap .i64 (v17 + (1 : Int))), (List.take (List.length v28) v28)))
                  else none
                 else
                  outO (bif (decide ((List.length v18) ≤ (List.length v18))) then 
                   some (Sum.inl (List.take (List.length v18) v18))
                  else none)) ((0 : Int), ([] : List Int))) fun v30 =>
               bif (decide ((List.length v30) ≤ (List.length v30))) then 
                some (Sum.inl (List.take (List.length v30) v30))
               else none) fun v31 =>
              bif (decide ((List.length v31) ≤ (List.length v31))) then 
               bindO (some (Go.IntKind.wrap .i64 (x13 + (4 : Int)))) fun x32 =>
               bindO (some (Go.IntKind.wrap .i64 (x13 + (4 : Int)))) fun x33 =>
               bif ((decide (((0 : Int) ≤ x33) ∧ (x33 ≤ (((List.length x5) : Nat) : Int)))) && ((decide (((0 : Int) ≤ x32) ∧ (x32 ≤ (((Int.toNat x33) : Nat) : Int)))) && (decide (((0 : Int) ≤ x13) ∧ (x13 ≤ (((Int.toNat x32) : Nat) : Int)))))) then 
                bif (decide ((bytesU (List.take (List.length v31) v31)) ≠ (bytesU (List.take ((Int.toNat x32) - (Int.toNat x13)) (List.drop (Int.toNat x13) x5))))) then
                 some (Sum.inl (((0 : Int), ([] : List Int)), ((11 : Int), (v3, v4))))
                else
                 bif (decide (((0 : Int) ≤ x12) ∧ ((x12 ≤ x12) ∧ (((x12 * (1 : Int)) ≤ (140737488355328 : Int)) ∧ (x12 ≤ (9223372036854775807 : Int)))))) then 
                  bif ((decide (((0 : Int) ≤ x13) ∧ (x13 ≤ (((List.length x5) : Nat) : Int)))) && ((decide (((0 : Int) ≤ x13) ∧ (x13 ≤ (((Int.toNat x13) : Nat) : Int)))) && (decide (((0 : Int) ≤ (10 : Int)) ∧ ((10 : Int) ≤ (((Int.toNat x13) : Nat) : Int)))))) then 
                   bindO (some (List.take ((Int.toNat x13) - 10) (List.drop 10 x5))) fun x35 =>
                   bif (decide ((Int.toNat x12) ≤ (List.length (List.replicate (Int.toNat x12) (0 : Int))))) then 
                    bif (decide (((0 : Int) ≤ (1 : Int)) ∧ ((1 : Int) < (((List.length x5) : Nat) : Int)))) then 
                     bindO x5[1]? fun x38 =>
                     bif (decide ((Int.toNat x12) ≤ (List.length (layL (List.replicate (Int.toNat x12) (0 : Int)) 0 (List.take (Int.toNat x12) x35))))) then 
                      some (Sum.inl ((x38, (List.take (Int.toNat x12) (layL (List.replicate (Int.toNat x12) (0 : Int)) 0 (List.take (Int.toNat x12) x35)))), ((0 : Int), (v3, (Go.IntKind.wrap .i64 (v4 + (Go.IntKind.wrap .i64 (x13 + (4 : Int)))))))))
                     else none
                    else none
                   else none
                  else none
                 else none
               else none
              else none
             else none
           else none
          else none
       else none) fun ((v39, v40), (v41, (v42, v43))) =>
      bif (decide (v41 ≠ (0 : Int))) then
       outO (outO (bif (decide ((List.length v2) ≤ (List.length v2))) then 
        some ((List.take (List.length v2) v2), (v43, v41))
       else none))
      else
       bif (decide ((List.length v2) ≤ (List.length v2))) then 
        bif (decide (((List.length ((List.take (List.length v2) v2) ++ ((v39, v40) :: ([] : List (Int × (List Int)))))) * 32) ≤ 140737488355328)) then 
         bindO (some ((List.take (List.length v2) v2) ++ ((v39, v40) :: ([] : List (Int × (List Int)))))) fun x44 =>
         bif (decide ((List.length x44) ≤ (List.length x44))) then 
          some (Sum.inl ((List.take (List.length x44) x44), (v42, v43)))
         else none
        else none
       else none
    else
     outO (bif (decide ((List.length v2) ≤ (List.length v2))) then 
      some (Sum.inl ((List.take (List.length v2) v2), (v3, v4)))
     else none)) (([] : List (Int × (List Int))), (a1, (0 : Int)))) fun (v45, (v46, v47)) =>
  bif (decide ((List.length v45) ≤ (List.length v45))) then 
   some ((List.take (List.length v45) v45), (v47, (0 : Int)))
  else none
noncomputable def cons18 : List (Nat × CE) := [(14, ⟨[(.tmp 0 false [(.dat (.list (.int .u8)))])], [(.tmp 0 false [(.dat (.int .u32))])], journal_Check⟩), (15, ⟨[(.tmp 0 false [(.dat (.list (.int .u8)))])], [(.tmp 0 false [(.dat (.int .u32))])], dialtoneref20_Check⟩), (34, ⟨[(.tmp 0 false [(.dat (.int .i64))]), (.tmp 1 false [(.dat (.int .i64))])], [(.tmp 0 false [(.dat (.list (.int .u8)))])], dialtoneref20_number⟩), (12, ⟨[(.tmp 0 false [(.dat (.int .i64))]), (.tmp 1 true [(.dat (.int .u8)), (.dat (.list (.int .u8)))])], [(.tmp 0 false [(.dat (.list (.int .u8)))]), (.tmp 1 false [(.dat (.int .u8))])], journal_Encode⟩), (13, ⟨[(.tmp 0 false [(.dat (.int .i64))]), (.tmp 1 true [(.dat (.int .u8)), (.dat (.list (.int .u8)))])], [(.tmp 0 false [(.dat (.list (.int .u8)))]), (.tmp 1 false [(.dat (.int .u8))])], dialtoneref20_Encode⟩), (39, ⟨[(.tmp 0 false [(.dat (.list (.int .u8)))]), (.tmp 1 false [(.dat (.int .i64))])], [(.tmp 0 false [(.dat .bool)])], journal_begins⟩), (40, ⟨[(.tmp 0 false [(.dat (.list (.int .u8)))]), (.tmp 1 false [(.dat (.int .i64))])], [(.tmp 0 false [(.dat .bool)])], dialtoneref20_wrong⟩), (37, ⟨[(.tmp 0 false [(.dat (.list (.int .u8)))]), (.tmp 1 false [(.dat (.list (.int .u8)))])], [(.tmp 0 false [(.dat (.list (.int .u8)))])], journal_joined⟩), (38, ⟨[(.tmp 0 false [(.dat (.list (.int .u8)))])], [(.tmp 0 false [(.dat (.list (.int .u8)))])], dialtoneref20_copied⟩), (27, ⟨[(.tmp 0 true [(.dat (.list (.int .u8))), (.dat (.int .i64)), (.dat (.int .i64))])], [(.tmp 0 false [(.dat .bool)])], journal_Valid⟩), (28, ⟨[(.tmp 0 true [(.dat (.list (.int .u8))), (.dat (.int .i64)), (.dat (.int .i64))])], [(.tmp 0 false [(.dat .bool)])], dialtoneref20_Valid⟩), (36, ⟨[(.tmp 0 false [(.dat (.list (.int .u8)))]), (.tmp 1 false [(.dat (.int .i64))])], [(.tmp 0 true [(.dat (.int .u8)), (.dat (.list (.int .u8)))]), (.tmp 1 false [(.dat (.int .i64))]), (.tmp 2 false [(.dat (.int .u8))])], dialtoneref20_One⟩)]
theorem cons18_ok : ConL Try.prog cons18 := ⟨con14, con15, con34, con12, con13, con39, con40, con37, con38, con27, con28, con36, trivial⟩
theorem con18 : ConOk Try.prog 18 ⟨[(.tmp 0 false [(.dat (.list (.int .u8)))])], [(.tmp 0 false [(.dat (.list (.pair (.int .u8) (.list (.int .u8)))))]), (.tmp 1 false [(.dat (.int .i64))]), (.tmp 2 false [(.dat (.int .u8))])], journal_Scan⟩ :=
  tree_ok (plan := planOf plan18) (eg := egNo) KK tabL_ok (conOf_ok cons18_ok) Try.func18 (by kernel_rfl) (by kernel_rfl) 10000 (fun a r h => Eq.trans (show _ = journal_Scan a from by kernel_rfl) h)
/-! ### dialtone/dialtoneref20.Scan -/
def plan20 : List (Nat × PL) := [(68853957121, (.carry [.tmp 6 false [(.dat (.int .i64))], .tmp 5 false [(.own 10000002 24 (.pair (.int .u8) (.list (.int .u8))))]])), (18049651735267334, (.carry [.tmp 6 false [(.dat (.int .i64))], .tmp 5 false [(.own 10000001 24 (.pair (.int .u8) (.list (.int .u8))))]]))]
noncomputable def dialtoneref20_Scan : (List Int) → Option ((List (Int × (List Int))) × (Int × Int)) := fun a1 =>
  joinO (loopO (fun (v2, v3) =>
    bif (decide (v2 < (((List.length a1) : Nat) : Int))) then
     bif (decide (((0 : Int) ≤ v2) ∧ (v2 ≤ (((List.length a1) : Nat) : Int)))) then 
      bindO (dialtoneref20_One ((List.drop (Int.toNat v2) a1), (((List.length v3) : Nat) : Int))) fun ((x6, x7), (x8, x9)) =>
      bif (decide (x9 ≠ (0 : Int))) then
       outO (outO (bif (decide ((List.length v3) ≤ (List.length v3))) then 
        some ((List.take (List.length v3) v3), (v2, x9))
       else none))
      else
       bif (decide ((List.length v3) ≤ (List.length v3))) then 
        bif (decide (((List.length ((List.take (List.length v3) v3) ++ ((x6, x7) :: ([] : List (Int × (List Int)))))) * 32) ≤ 140737488355328)) then 
         bindO (some ((List.take (List.length v3) v3) ++ ((x6, x7) :: ([] : List (Int × (List Int)))))) fun x10 =>
         bif (decide ((List.length x10) ≤ (List.length x10))) then 
          some (Sum.inl ((Go.IntKind.wrap .i64 (v2 + x8)), (List.take (List.length x10) x10)))
         else none
        else none
       else none
     else none
    else
     outO (bif (decide ((List.length v3) ≤ (List.length v3))) then 
      some (Sum.inl (v2, (List.take (List.length v3) v3)))
     else none)) ((0 : Int), ([] : List (Int × (List Int))))) fun (v12, v13) =>
  bif (decide ((List.length v13) ≤ (List.length v13))) then 
   some ((List.take (List.length v13) v13), (v12, (0 : Int)))
  else none
noncomputable def cons20 : List (Nat × CE) := [(14, ⟨[(.tmp 0 false [(.dat (.list (.int .u8)))])], [(.tmp 0 false [(.dat (.int .u32))])], journal_Check⟩), (15, ⟨[(.tmp 0 false [(.dat (.list (.int .u8)))])], [(.tmp 0 false [(.dat (.int .u32))])], dialtoneref20_Check⟩), (34, ⟨[(.tmp 0 false [(.dat (.int .i64))]), (.tmp 1 false [(.dat (.int .i64))])], [(.tmp 0 false [(.dat (.list (.int .u8)))])], dialtoneref20_number⟩), (12, ⟨[(.tmp 0 false [(.dat (.int .i64))]), (.tmp 1 true [(.dat (.int .u8)), (.dat (.list (.int .u8)))])], [(.tmp 0 false [(.dat (.list (.int .u8)))]), (.tmp 1 false [(.dat (.int .u8))])], journal_Encode⟩), (13, ⟨[(.tmp 0 false [(.dat (.int .i64))]), (.tmp 1 true [(.dat (.int .u8)), (.dat (.list (.int .u8)))])], [(.tmp 0 false [(.dat (.list (.int .u8)))]), (.tmp 1 false [(.dat (.int .u8))])], dialtoneref20_Encode⟩), (39, ⟨[(.tmp 0 false [(.dat (.list (.int .u8)))]), (.tmp 1 false [(.dat (.int .i64))])], [(.tmp 0 false [(.dat .bool)])], journal_begins⟩), (40, ⟨[(.tmp 0 false [(.dat (.list (.int .u8)))]), (.tmp 1 false [(.dat (.int .i64))])], [(.tmp 0 false [(.dat .bool)])], dialtoneref20_wrong⟩), (37, ⟨[(.tmp 0 false [(.dat (.list (.int .u8)))]), (.tmp 1 false [(.dat (.list (.int .u8)))])], [(.tmp 0 false [(.dat (.list (.int .u8)))])], journal_joined⟩), (38, ⟨[(.tmp 0 false [(.dat (.list (.int .u8)))])], [(.tmp 0 false [(.dat (.list (.int .u8)))])], dialtoneref20_copied⟩), (27, ⟨[(.tmp 0 true [(.dat (.list (.int .u8))), (.dat (.int .i64)), (.dat (.int .i64))])], [(.tmp 0 false [(.dat .bool)])], journal_Valid⟩), (28, ⟨[(.tmp 0 true [(.dat (.list (.int .u8))), (.dat (.int .i64)), (.dat (.int .i64))])], [(.tmp 0 false [(.dat .bool)])], dialtoneref20_Valid⟩), (36, ⟨[(.tmp 0 false [(.dat (.list (.int .u8)))]), (.tmp 1 false [(.dat (.int .i64))])], [(.tmp 0 true [(.dat (.int .u8)), (.dat (.list (.int .u8)))]), (.tmp 1 false [(.dat (.int .i64))]), (.tmp 2 false [(.dat (.int .u8))])], dialtoneref20_One⟩), (18, ⟨[(.tmp 0 false [(.dat (.list (.int .u8)))])], [(.tmp 0 false [(.dat (.list (.pair (.int .u8) (.list (.int .u8)))))]), (.tmp 1 false [(.dat (.int .i64))]), (.tmp 2 false [(.dat (.int .u8))])], journal_Scan⟩)]
theorem cons20_ok : ConL Try.prog cons20 := ⟨con14, con15, con34, con12, con13, con39, con40, con37, con38, con27, con28, con36, con18, trivial⟩
theorem con20 : ConOk Try.prog 20 ⟨[(.tmp 0 false [(.dat (.list (.int .u8)))])], [(.tmp 0 false [(.dat (.list (.pair (.int .u8) (.list (.int .u8)))))]), (.tmp 1 false [(.dat (.int .i64))]), (.tmp 2 false [(.dat (.int .u8))])], dialtoneref20_Scan⟩ :=
  tree_ok (plan := planOf plan20) (eg := egNo) KK tabL_ok (conOf_ok cons20_ok) Try.func20 (by kernel_rfl) (by kernel_rfl) 10000 (fun a r h => Eq.trans (show _ = dialtoneref20_Scan a from by kernel_rfl) h)
/-! ### dialtone/journal.Recover -/
def plan21 : List (Nat × PL) := []
noncomputable def journal_Recover : (List Int) → Option (((List Int) × (Int × Int)) × (List (Int × (List Int)))) := fun a1 =>
  bindO (journal_Scan a1) fun (x3, (x4, x5)) =>
  bif ((decide (((0 : Int) ≤ x4) ∧ (x4 ≤ (((List.length a1) : Nat) : Int)))) && (decide (((0 : Int) ≤ x4) ∧ (x4 ≤ (((Int.toNat x4) : Nat) : Int))))) then 
   bindO (journal_joined ((List.take (Int.toNat x4) a1), ([] : List Int))) fun x7 =>
   some ((x7, (x4, (((List.length x3) : Nat) : Int))), x3)
  else none
noncomputable def cons21 : List (Nat × CE) := [(14, ⟨[(.tmp 0 false [(.dat (.list (.int .u8)))])], [(.tmp 0 false [(.dat (.int .u32))])], journal_Check⟩), (15, ⟨[(.tmp 0 false [(.dat (.list (.int .u8)))])], [(.tmp 0 false [(.dat (.int .u32))])], dialtoneref20_Check⟩), (34, ⟨[(.tmp 0 false [(.dat (.int .i64))]), (.tmp 1 false [(.dat (.int .i64))])], [(.tmp 0 false [(.dat (.list (.int .u8)))])], dialtoneref20_number⟩), (12, ⟨[(.tmp 0 false [(.dat (.int .i64))]), (.tmp 1 true [(.dat (.int .u8)), (.dat (.list (.int .u8)))])], [(.tmp 0 false [(.dat (.list (.int .u8)))]), (.tmp 1 false [(.dat (.int .u8))])], journal_Encode⟩), (13, ⟨[(.tmp 0 false [(.dat (.int .i64))]), (.tmp 1 true [(.dat (.int .u8)), (.dat (.list (.int .u8)))])], [(.tmp 0 false [(.dat (.list (.int .u8)))]), (.tmp 1 false [(.dat (.int .u8))])], dialtoneref20_Encode⟩), (39, ⟨[(.tmp 0 false [(.dat (.list (.int .u8)))]), (.tmp 1 false [(.dat (.int .i64))])], [(.tmp 0 false [(.dat .bool)])], journal_begins⟩), (40, ⟨[(.tmp 0 false [(.dat (.list (.int .u8)))]), (.tmp 1 false [(.dat (.int .i64))])], [(.tmp 0 false [(.dat .bool)])], dialtoneref20_wrong⟩), (37, ⟨[(.tmp 0 false [(.dat (.list (.int .u8)))]), (.tmp 1 false [(.dat (.list (.int .u8)))])], [(.tmp 0 false [(.dat (.list (.int .u8)))])], journal_joined⟩), (38, ⟨[(.tmp 0 false [(.dat (.list (.int .u8)))])], [(.tmp 0 false [(.dat (.list (.int .u8)))])], dialtoneref20_copied⟩), (27, ⟨[(.tmp 0 true [(.dat (.list (.int .u8))), (.dat (.int .i64)), (.dat (.int .i64))])], [(.tmp 0 false [(.dat .bool)])], journal_Valid⟩), (28, ⟨[(.tmp 0 true [(.dat (.list (.int .u8))), (.dat (.int .i64)), (.dat (.int .i64))])], [(.tmp 0 false [(.dat .bool)])], dialtoneref20_Valid⟩), (36, ⟨[(.tmp 0 false [(.dat (.list (.int .u8)))]), (.tmp 1 false [(.dat (.int .i64))])], [(.tmp 0 true [(.dat (.int .u8)), (.dat (.list (.int .u8)))]), (.tmp 1 false [(.dat (.int .i64))]), (.tmp 2 false [(.dat (.int .u8))])], dialtoneref20_One⟩), (18, ⟨[(.tmp 0 false [(.dat (.list (.int .u8)))])], [(.tmp 0 false [(.dat (.list (.pair (.int .u8) (.list (.int .u8)))))]), (.tmp 1 false [(.dat (.int .i64))]), (.tmp 2 false [(.dat (.int .u8))])], journal_Scan⟩), (20, ⟨[(.tmp 0 false [(.dat (.list (.int .u8)))])], [(.tmp 0 false [(.dat (.list (.pair (.int .u8) (.list (.int .u8)))))]), (.tmp 1 false [(.dat (.int .i64))]), (.tmp 2 false [(.dat (.int .u8))])], dialtoneref20_Scan⟩)]
theorem cons21_ok : ConL Try.prog cons21 := ⟨con14, con15, con34, con12, con13, con39, con40, con37, con38, con27, con28, con36, con18, con20, trivial⟩
theorem con21 : ConOk Try.prog 21 ⟨[(.tmp 0 false [(.dat (.list (.int .u8)))])], [(.tmp 0 true [(.dat (.list (.int .u8))), (.dat (.int .i64)), (.dat (.int .i64))]), (.tmp 1 false [(.dat (.list (.pair (.int .u8) (.list (.int .u8)))))])], journal_Recover⟩ :=
  tree_ok (plan := planOf plan21) (eg := egNo) KK tabL_ok (conOf_ok cons21_ok) Try.func21 (by kernel_rfl) (by kernel_rfl) 10000 (fun a r h => Eq.trans (show _ = journal_Recover a from by kernel_rfl) h)
/-! ### dialtone/dialtoneref20.Recover -/
def plan22 : List (Nat × PL) := []
noncomputable def dialtoneref20_Recover : (List Int) → Option (((List Int) × (Int × Int)) × (List (Int × (List Int)))) := fun a1 =>
  bindO (dialtoneref20_Scan a1) fun (x3, (x4, x5)) =>
  bif (decide (((0 : Int) ≤ x4) ∧ (x4 ≤ (((List.length a1) : Nat) : Int)))) then 
   bindO (dialtoneref20_copied (List.take (Int.toNat x4) a1)) fun x7 =>
   some ((x7, (x4, (((List.length x3) : Nat) : Int))), x3)
  else none
noncomputable def cons22 : List (Nat × CE) := [(14, ⟨[(.tmp 0 false [(.dat (.list (.int .u8)))])], [(.tmp 0 false [(.dat (.int .u32))])], journal_Check⟩), (15, ⟨[(.tmp 0 false [(.dat (.list (.int .u8)))])], [(.tmp 0 false [(.dat (.int .u32))])], dialtoneref20_Check⟩), (34, ⟨[(.tmp 0 false [(.dat (.int .i64))]), (.tmp 1 false [(.dat (.int .i64))])], [(.tmp 0 false [(.dat (.list (.int .u8)))])], dialtoneref20_number⟩), (12, ⟨[(.tmp 0 false [(.dat (.int .i64))]), (.tmp 1 true [(.dat (.int .u8)), (.dat (.list (.int .u8)))])], [(.tmp 0 false [(.dat (.list (.int .u8)))]), (.tmp 1 false [(.dat (.int .u8))])], journal_Encode⟩), (13, ⟨[(.tmp 0 false [(.dat (.int .i64))]), (.tmp 1 true [(.dat (.int .u8)), (.dat (.list (.int .u8)))])], [(.tmp 0 false [(.dat (.list (.int .u8)))]), (.tmp 1 false [(.dat (.int .u8))])], dialtoneref20_Encode⟩), (39, ⟨[(.tmp 0 false [(.dat (.list (.int .u8)))]), (.tmp 1 false [(.dat (.int .i64))])], [(.tmp 0 false [(.dat .bool)])], journal_begins⟩), (40, ⟨[(.tmp 0 false [(.dat (.list (.int .u8)))]), (.tmp 1 false [(.dat (.int .i64))])], [(.tmp 0 false [(.dat .bool)])], dialtoneref20_wrong⟩), (37, ⟨[(.tmp 0 false [(.dat (.list (.int .u8)))]), (.tmp 1 false [(.dat (.list (.int .u8)))])], [(.tmp 0 false [(.dat (.list (.int .u8)))])], journal_joined⟩), (38, ⟨[(.tmp 0 false [(.dat (.list (.int .u8)))])], [(.tmp 0 false [(.dat (.list (.int .u8)))])], dialtoneref20_copied⟩), (27, ⟨[(.tmp 0 true [(.dat (.list (.int .u8))), (.dat (.int .i64)), (.dat (.int .i64))])], [(.tmp 0 false [(.dat .bool)])], journal_Valid⟩), (28, ⟨[(.tmp 0 true [(.dat (.list (.int .u8))), (.dat (.int .i64)), (.dat (.int .i64))])], [(.tmp 0 false [(.dat .bool)])], dialtoneref20_Valid⟩), (36, ⟨[(.tmp 0 false [(.dat (.list (.int .u8)))]), (.tmp 1 false [(.dat (.int .i64))])], [(.tmp 0 true [(.dat (.int .u8)), (.dat (.list (.int .u8)))]), (.tmp 1 false [(.dat (.int .i64))]), (.tmp 2 false [(.dat (.int .u8))])], dialtoneref20_One⟩), (18, ⟨[(.tmp 0 false [(.dat (.list (.int .u8)))])], [(.tmp 0 false [(.dat (.list (.pair (.int .u8) (.list (.int .u8)))))]), (.tmp 1 false [(.dat (.int .i64))]), (.tmp 2 false [(.dat (.int .u8))])], journal_Scan⟩), (20, ⟨[(.tmp 0 false [(.dat (.list (.int .u8)))])], [(.tmp 0 false [(.dat (.list (.pair (.int .u8) (.list (.int .u8)))))]), (.tmp 1 false [(.dat (.int .i64))]), (.tmp 2 false [(.dat (.int .u8))])], dialtoneref20_Scan⟩), (21, ⟨[(.tmp 0 false [(.dat (.list (.int .u8)))])], [(.tmp 0 true [(.dat (.list (.int .u8))), (.dat (.int .i64)), (.dat (.int .i64))]), (.tmp 1 false [(.dat (.list (.pair (.int .u8) (.list (.int .u8)))))])], journal_Recover⟩)]
theorem cons22_ok : ConL Try.prog cons22 := ⟨con14, con15, con34, con12, con13, con39, con40, con37, con38, con27, con28, con36, con18, con20, con21, trivial⟩
theorem con22 : ConOk Try.prog 22 ⟨[(.tmp 0 false [(.dat (.list (.int .u8)))])], [(.tmp 0 true [(.dat (.list (.int .u8))), (.dat (.int .i64)), (.dat (.int .i64))]), (.tmp 1 false [(.dat (.list (.pair (.int .u8) (.list (.int .u8)))))])], dialtoneref20_Recover⟩ :=
  tree_ok (plan := planOf plan22) (eg := egNo) KK tabL_ok (conOf_ok cons22_ok) Try.func22 (by kernel_rfl) (by kernel_rfl) 10000 (fun a r h => Eq.trans (show _ = dialtoneref20_Recover a from by kernel_rfl) h)
/-! ### dialtone/dialtoneref20.Same -/
def plan19 : List (Nat × PL) := [(134480385, (.carry [])), (18049651601311750, (.carry [.tmp 5 false [(.dat (.int .i64))]]))]
noncomputable def dialtoneref20_Same : ((List (Int × (List Int))) × (List (Int × (List Int)))) → Option Bool := fun (a1, a2) =>
  bif (decide ((((List.length a1) : Nat) : Int) ≠ (((List.length a2) : Nat) : Int))) then
   some Bool.false
  else
   joinO (loopO (fun v3 =>
     bif (decide (v3 < (((List.length a1) : Nat) : Int))) then
      bif (decide (((0 : Int) ≤ v3) ∧ (v3 < (((List.length a1) : Nat) : Int)))) then 
       bindO a1[(Int.toNat v3)]? fun x4 =>
       bif (decide (((0 : Int) ≤ v3) ∧ (v3 < (((List.length a2) : Nat) : Int)))) then 
        bindO a2[(Int.toNat v3)]? fun x5 =>
        bif (decide (x4.1 ≠ x5.1)) then
         outO (outO (some Bool.false))
        else
         bif (decide (((0 : Int) ≤ v3) ∧ (v3 < (((List.length a1) : Nat) : Int)))) then 
          bindO a1[(Int.toNat v3)]? fun x6 =>
          bif (decide (((0 : Int) ≤ v3) ∧ (v3 < (((List.length a2) : Nat) : Int)))) then 
           bindO a2[(Int.toNat v3)]? fun x7 =>
           bif (decide ((bytesU x6.2) ≠ (bytesU x7.2))) then
            outO (outO (some Bool.false))
           else
            some (Sum.inl (Go.IntKind.wrap .i64 (v3 + (1 : Int))))
          else none
         else none
       else none
      else none
     else
      outO (some (Sum.inl ()))) (0 : Int)) fun _ =>
   some Bool.true
noncomputable def cons19 : List (Nat × CE) := [(14, ⟨[(.tmp 0 false [(.dat (.list (.int .u8)))])], [(.tmp 0 false [(.dat (.int .u32))])], journal_Check⟩), (15, ⟨[(.tmp 0 false [(.dat (.list (.int .u8)))])], [(.tmp 0 false [(.dat (.int .u32))])], dialtoneref20_Check⟩), (34, ⟨[(.tmp 0 false [(.dat (.int .i64))]), (.tmp 1 false [(.dat (.int .i64))])], [(.tmp 0 false [(.dat (.list (.int .u8)))])], dialtoneref20_number⟩), (12, ⟨[(.tmp 0 false [(.dat (.int .i64))]), (.tmp 1 true [(.dat (.int .u8)), (.dat (.list (.int .u8)))])], [(.tmp 0 false [(.dat (.list (.int .u8)))]), (.tmp 1 false [(.dat (.int .u8))])], journal_Encode⟩), (13, ⟨[(.tmp 0 false [(.dat (.int .i64))]), (.tmp 1 true [(.dat (.int .u8)), (.dat (.list (.int .u8)))])], [(.tmp 0 false [(.dat (.list (.int .u8)))]), (.tmp 1 false [(.dat (.int .u8))])], dialtoneref20_Encode⟩), (39, ⟨[(.tmp 0 false [(.dat (.list (.int .u8)))]), (.tmp 1 false [(.dat (.int .i64))])], [(.tmp 0 false [(.dat .bool)])], journal_begins⟩), (40, ⟨[(.tmp 0 false [(.dat (.list (.int .u8)))]), (.tmp 1 false [(.dat (.int .i64))])], [(.tmp 0 false [(.dat .bool)])], dialtoneref20_wrong⟩), (37, ⟨[(.tmp 0 false [(.dat (.list (.int .u8)))]), (.tmp 1 false [(.dat (.list (.int .u8)))])], [(.tmp 0 false [(.dat (.list (.int .u8)))])], journal_joined⟩), (38, ⟨[(.tmp 0 false [(.dat (.list (.int .u8)))])], [(.tmp 0 false [(.dat (.list (.int .u8)))])], dialtoneref20_copied⟩), (27, ⟨[(.tmp 0 true [(.dat (.list (.int .u8))), (.dat (.int .i64)), (.dat (.int .i64))])], [(.tmp 0 false [(.dat .bool)])], journal_Valid⟩), (28, ⟨[(.tmp 0 true [(.dat (.list (.int .u8))), (.dat (.int .i64)), (.dat (.int .i64))])], [(.tmp 0 false [(.dat .bool)])], dialtoneref20_Valid⟩), (36, ⟨[(.tmp 0 false [(.dat (.list (.int .u8)))]), (.tmp 1 false [(.dat (.int .i64))])], [(.tmp 0 true [(.dat (.int .u8)), (.dat (.list (.int .u8)))]), (.tmp 1 false [(.dat (.int .i64))]), (.tmp 2 false [(.dat (.int .u8))])], dialtoneref20_One⟩), (18, ⟨[(.tmp 0 false [(.dat (.list (.int .u8)))])], [(.tmp 0 false [(.dat (.list (.pair (.int .u8) (.list (.int .u8)))))]), (.tmp 1 false [(.dat (.int .i64))]), (.tmp 2 false [(.dat (.int .u8))])], journal_Scan⟩), (20, ⟨[(.tmp 0 false [(.dat (.list (.int .u8)))])], [(.tmp 0 false [(.dat (.list (.pair (.int .u8) (.list (.int .u8)))))]), (.tmp 1 false [(.dat (.int .i64))]), (.tmp 2 false [(.dat (.int .u8))])], dialtoneref20_Scan⟩), (21, ⟨[(.tmp 0 false [(.dat (.list (.int .u8)))])], [(.tmp 0 true [(.dat (.list (.int .u8))), (.dat (.int .i64)), (.dat (.int .i64))]), (.tmp 1 false [(.dat (.list (.pair (.int .u8) (.list (.int .u8)))))])], journal_Recover⟩), (22, ⟨[(.tmp 0 false [(.dat (.list (.int .u8)))])], [(.tmp 0 true [(.dat (.list (.int .u8))), (.dat (.int .i64)), (.dat (.int .i64))]), (.tmp 1 false [(.dat (.list (.pair (.int .u8) (.list (.int .u8)))))])], dialtoneref20_Recover⟩)]
theorem cons19_ok : ConL Try.prog cons19 := ⟨con14, con15, con34, con12, con13, con39, con40, con37, con38, con27, con28, con36, con18, con20, con21, con22, trivial⟩
theorem con19 : ConOk Try.prog 19 ⟨[(.tmp 0 false [(.dat (.list (.pair (.int .u8) (.list (.int .u8)))))]), (.tmp 1 false [(.dat (.list (.pair (.int .u8) (.list (.int .u8)))))])], [(.tmp 0 false [(.dat .bool)])], dialtoneref20_Same⟩ :=
  tree_ok (plan := planOf plan19) (eg := egNo) KK tabL_ok (conOf_ok cons19_ok) Try.func19 (by kernel_rfl) (by kernel_rfl) 10000 (fun a r h => Eq.trans (show _ = dialtoneref20_Same a from by kernel_rfl) h)
/-! ### dialtone/dialtoneref20.SameLog -/
def plan23 : List (Nat × PL) := []
noncomputable def dialtoneref20_SameLog : (((List Int) × (Int × Int)) × ((List Int) × (Int × Int))) → Option Bool := fun ((a1, (a2, a3)), (a4, (a5, a6))) =>
  bif (decide ((bytesU a1) = (bytesU a4))) then
   bif (decide (a2 = a5)) then
    some (decide (a3 = a6))
   else
    some Bool.false
  else
   some Bool.false
noncomputable def cons23 : List (Nat × CE) := [(14, ⟨[(.tmp 0 false [(.dat (.list (.int .u8)))])], [(.tmp 0 false [(.dat (.int .u32))])], journal_Check⟩), (15, ⟨[(.tmp 0 false [(.dat (.list (.int .u8)))])], [(.tmp 0 false [(.dat (.int .u32))])], dialtoneref20_Check⟩), (34, ⟨[(.tmp 0 false [(.dat (.int .i64))]), (.tmp 1 false [(.dat (.int .i64))])], [(.tmp 0 false [(.dat (.list (.int .u8)))])], dialtoneref20_number⟩), (12, ⟨[(.tmp 0 false [(.dat (.int .i64))]), (.tmp 1 true [(.dat (.int .u8)), (.dat (.list (.int .u8)))])], [(.tmp 0 false [(.dat (.list (.int .u8)))]), (.tmp 1 false [(.dat (.int .u8))])], journal_Encode⟩), (13, ⟨[(.tmp 0 false [(.dat (.int .i64))]), (.tmp 1 true [(.dat (.int .u8)), (.dat (.list (.int .u8)))])], [(.tmp 0 false [(.dat (.list (.int .u8)))]), (.tmp 1 false [(.dat (.int .u8))])], dialtoneref20_Encode⟩), (39, ⟨[(.tmp 0 false [(.dat (.list (.int .u8)))]), (.tmp 1 false [(.dat (.int .i64))])], [(.tmp 0 false [(.dat .bool)])], journal_begins⟩), (40, ⟨[(.tmp 0 false [(.dat (.list (.int .u8)))]), (.tmp 1 false [(.dat (.int .i64))])], [(.tmp 0 false [(.dat .bool)])], dialtoneref20_wrong⟩), (37, ⟨[(.tmp 0 false [(.dat (.list (.int .u8)))]), (.tmp 1 false [(.dat (.list (.int .u8)))])], [(.tmp 0 false [(.dat (.list (.int .u8)))])], journal_joined⟩), (38, ⟨[(.tmp 0 false [(.dat (.list (.int .u8)))])], [(.tmp 0 false [(.dat (.list (.int .u8)))])], dialtoneref20_copied⟩), (27, ⟨[(.tmp 0 true [(.dat (.list (.int .u8))), (.dat (.int .i64)), (.dat (.int .i64))])], [(.tmp 0 false [(.dat .bool)])], journal_Valid⟩), (28, ⟨[(.tmp 0 true [(.dat (.list (.int .u8))), (.dat (.int .i64)), (.dat (.int .i64))])], [(.tmp 0 false [(.dat .bool)])], dialtoneref20_Valid⟩), (36, ⟨[(.tmp 0 false [(.dat (.list (.int .u8)))]), (.tmp 1 false [(.dat (.int .i64))])], [(.tmp 0 true [(.dat (.int .u8)), (.dat (.list (.int .u8)))]), (.tmp 1 false [(.dat (.int .i64))]), (.tmp 2 false [(.dat (.int .u8))])], dialtoneref20_One⟩), (18, ⟨[(.tmp 0 false [(.dat (.list (.int .u8)))])], [(.tmp 0 false [(.dat (.list (.pair (.int .u8) (.list (.int .u8)))))]), (.tmp 1 false [(.dat (.int .i64))]), (.tmp 2 false [(.dat (.int .u8))])], journal_Scan⟩), (20, ⟨[(.tmp 0 false [(.dat (.list (.int .u8)))])], [(.tmp 0 false [(.dat (.list (.pair (.int .u8) (.list (.int .u8)))))]), (.tmp 1 false [(.dat (.int .i64))]), (.tmp 2 false [(.dat (.int .u8))])], dialtoneref20_Scan⟩), (21, ⟨[(.tmp 0 false [(.dat (.list (.int .u8)))])], [(.tmp 0 true [(.dat (.list (.int .u8))), (.dat (.int .i64)), (.dat (.int .i64))]), (.tmp 1 false [(.dat (.list (.pair (.int .u8) (.list (.int .u8)))))])], journal_Recover⟩), (22, ⟨[(.tmp 0 false [(.dat (.list (.int .u8)))])], [(.tmp 0 true [(.dat (.list (.int .u8))), (.dat (.int .i64)), (.dat (.int .i64))]), (.tmp 1 false [(.dat (.list (.pair (.int .u8) (.list (.int .u8)))))])], dialtoneref20_Recover⟩), (19, ⟨[(.tmp 0 false [(.dat (.list (.pair (.int .u8) (.list (.int .u8)))))]), (.tmp 1 false [(.dat (.list (.pair (.int .u8) (.list (.int .u8)))))])], [(.tmp 0 false [(.dat .bool)])], dialtoneref20_Same⟩)]
theorem cons23_ok : ConL Try.prog cons23 := ⟨con14, con15, con34, con12, con13, con39, con40, con37, con38, con27, con28, con36, con18, con20, con21, con22, con19, trivial⟩
theorem con23 : ConOk Try.prog 23 ⟨[(.tmp 0 true [(.dat (.list (.int .u8))), (.dat (.int .i64)), (.dat (.int .i64))]), (.tmp 1 true [(.dat (.list (.int .u8))), (.dat (.int .i64)), (.dat (.int .i64))])], [(.tmp 0 false [(.dat .bool)])], dialtoneref20_SameLog⟩ :=
  tree_ok (plan := planOf plan23) (eg := egNo) KK tabL_ok (conOf_ok cons23_ok) Try.func23 (by kernel_rfl) (by kernel_rfl) 10000 (fun a r h => Eq.trans (show _ = dialtoneref20_SameLog a from by kernel_rfl) h)
/-! ### dialtone/journal.Append -/
def plan25 : List (Nat × PL) := []
noncomputable def journal_Append : (((List Int) × (Int × Int)) × (Int × (List Int))) → Option (((List Int) × (Int × Int)) × Int) := fun ((a1, (a2, a3)), (a4, a5)) =>
  bindO (journal_Valid (a1, (a2, a3))) fun x6 =>
  bif (!x6) then
   some ((([] : List Int), ((0 : Int), (0 : Int))), (2 : Int))
  else
   bif (decide (a3 ≥ (1048576 : Int))) then
    some ((([] : List Int), ((0 : Int), (0 : Int))), (10 : Int))
   else
    bindO (journal_Encode (a3, (a4, a5))) fun (x8, x9) =>
    bif (decide (x9 ≠ (0 : Int))) then
     some ((([] : List Int), ((0 : Int), (0 : Int))), x9)
    else
     bindO (journal_joined (a1, x8)) fun x10 =>
     some ((x10, (a2, (Go.IntKind.wrap .i64 (a3 + (1 : Int))))), (0 : Int))
noncomputable def cons25 : List (Nat × CE) := [(14, ⟨[(.tmp 0 false [(.dat (.list (.int .u8)))])], [(.tmp 0 false [(.dat (.int .u32))])], journal_Check⟩), (15, ⟨[(.tmp 0 false [(.dat (.list (.int .u8)))])], [(.tmp 0 false [(.dat (.int .u32))])], dialtoneref20_Check⟩), (34, ⟨[(.tmp 0 false [(.dat (.int .i64))]), (.tmp 1 false [(.dat (.int .i64))])], [(.tmp 0 false [(.dat (.list (.int .u8)))])], dialtoneref20_number⟩), (12, ⟨[(.tmp 0 false [(.dat (.int .i64))]), (.tmp 1 true [(.dat (.int .u8)), (.dat (.list (.int .u8)))])], [(.tmp 0 false [(.dat (.list (.int .u8)))]), (.tmp 1 false [(.dat (.int .u8))])], journal_Encode⟩), (13, ⟨[(.tmp 0 false [(.dat (.int .i64))]), (.tmp 1 true [(.dat (.int .u8)), (.dat (.list (.int .u8)))])], [(.tmp 0 false [(.dat (.list (.int .u8)))]), (.tmp 1 false [(.dat (.int .u8))])], dialtoneref20_Encode⟩), (39, ⟨[(.tmp 0 false [(.dat (.list (.int .u8)))]), (.tmp 1 false [(.dat (.int .i64))])], [(.tmp 0 false [(.dat .bool)])], journal_begins⟩), (40, ⟨[(.tmp 0 false [(.dat (.list (.int .u8)))]), (.tmp 1 false [(.dat (.int .i64))])], [(.tmp 0 false [(.dat .bool)])], dialtoneref20_wrong⟩), (37, ⟨[(.tmp 0 false [(.dat (.list (.int .u8)))]), (.tmp 1 false [(.dat (.list (.int .u8)))])], [(.tmp 0 false [(.dat (.list (.int .u8)))])], journal_joined⟩), (38, ⟨[(.tmp 0 false [(.dat (.list (.int .u8)))])], [(.tmp 0 false [(.dat (.list (.int .u8)))])], dialtoneref20_copied⟩), (27, ⟨[(.tmp 0 true [(.dat (.list (.int .u8))), (.dat (.int .i64)), (.dat (.int .i64))])], [(.tmp 0 false [(.dat .bool)])], journal_Valid⟩), (28, ⟨[(.tmp 0 true [(.dat (.list (.int .u8))), (.dat (.int .i64)), (.dat (.int .i64))])], [(.tmp 0 false [(.dat .bool)])], dialtoneref20_Valid⟩), (36, ⟨[(.tmp 0 false [(.dat (.list (.int .u8)))]), (.tmp 1 false [(.dat (.int .i64))])], [(.tmp 0 true [(.dat (.int .u8)), (.dat (.list (.int .u8)))]), (.tmp 1 false [(.dat (.int .i64))]), (.tmp 2 false [(.dat (.int .u8))])], dialtoneref20_One⟩), (18, ⟨[(.tmp 0 false [(.dat (.list (.int .u8)))])], [(.tmp 0 false [(.dat (.list (.pair (.int .u8) (.list (.int .u8)))))]), (.tmp 1 false [(.dat (.int .i64))]), (.tmp 2 false [(.dat (.int .u8))])], journal_Scan⟩), (20, ⟨[(.tmp 0 false [(.dat (.list (.int .u8)))])], [(.tmp 0 false [(.dat (.list (.pair (.int .u8) (.list (.int .u8)))))]), (.tmp 1 false [(.dat (.int .i64))]), (.tmp 2 false [(.dat (.int .u8))])], dialtoneref20_Scan⟩), (21, ⟨[(.tmp 0 false [(.dat (.list (.int .u8)))])], [(.tmp 0 true [(.dat (.list (.int .u8))), (.dat (.int .i64)), (.dat (.int .i64))]), (.tmp 1 false [(.dat (.list (.pair (.int .u8) (.list (.int .u8)))))])], journal_Recover⟩), (22, ⟨[(.tmp 0 false [(.dat (.list (.int .u8)))])], [(.tmp 0 true [(.dat (.list (.int .u8))), (.dat (.int .i64)), (.dat (.int .i64))]), (.tmp 1 false [(.dat (.list (.pair (.int .u8) (.list (.int .u8)))))])], dialtoneref20_Recover⟩), (19, ⟨[(.tmp 0 false [(.dat (.list (.pair (.int .u8) (.list (.int .u8)))))]), (.tmp 1 false [(.dat (.list (.pair (.int .u8) (.list (.int .u8)))))])], [(.tmp 0 false [(.dat .bool)])], dialtoneref20_Same⟩), (23, ⟨[(.tmp 0 true [(.dat (.list (.int .u8))), (.dat (.int .i64)), (.dat (.int .i64))]), (.tmp 1 true [(.dat (.list (.int .u8))), (.dat (.int .i64)), (.dat (.int .i64))])], [(.tmp 0 false [(.dat .bool)])], dialtoneref20_SameLog⟩)]
theorem cons25_ok : ConL Try.prog cons25 := ⟨con14, con15, con34, con12, con13, con39, con40, con37, con38, con27, con28, con36, con18, con20, con21, con22, con19, con23, trivial⟩
theorem con25 : ConOk Try.prog 25 ⟨[(.tmp 0 true [(.dat (.list (.int .u8))), (.dat (.int .i64)), (.dat (.int .i64))]), (.tmp 1 true [(.dat (.int .u8)), (.dat (.list (.int .u8)))])], [(.tmp 0 true [(.dat (.list (.int .u8))), (.dat (.int .i64)), (.dat (.int .i64))]), (.tmp 1 false [(.dat (.int .u8))])], journal_Append⟩ :=
  tree_ok (plan := planOf plan25) (eg := egNo) KK tabL_ok (conOf_ok cons25_ok) Try.func25 (by kernel_rfl) (by kernel_rfl) 10000 (fun a r h => Eq.trans (show _ = journal_Append a from by kernel_rfl) h)
/-! ### dialtone/journal.Sync -/
def plan29 : List (Nat × PL) := []
noncomputable def journal_Sync : ((List Int) × (Int × Int)) → Option ((List Int) × (Int × Int)) := fun (a1, (a2, a3)) =>
  bindO (journal_Valid (a1, (a2, a3))) fun x4 =>
  bif (!x4) then
   some (([] : List Int), ((0 : Int), (0 : Int)))
  else
   bindO (journal_joined (a1, ([] : List Int))) fun x5 =>
   some (x5, ((((List.length a1) : Nat) : Int), a3))
noncomputable def cons29 : List (Nat × CE) := [(14, ⟨[(.tmp 0 false [(.dat (.list (.int .u8)))])], [(.tmp 0 false [(.dat (.int .u32))])], journal_Check⟩), (15, ⟨[(.tmp 0 false [(.dat (.list (.int .u8)))])], [(.tmp 0 false [(.dat (.int .u32))])], dialtoneref20_Check⟩), (34, ⟨[(.tmp 0 false [(.dat (.int .i64))]), (.tmp 1 false [(.dat (.int .i64))])], [(.tmp 0 false [(.dat (.list (.int .u8)))])], dialtoneref20_number⟩), (12, ⟨[(.tmp 0 false [(.dat (.int .i64))]), (.tmp 1 true [(.dat (.int .u8)), (.dat (.list (.int .u8)))])], [(.tmp 0 false [(.dat (.list (.int .u8)))]), (.tmp 1 false [(.dat (.int .u8))])], journal_Encode⟩), (13, ⟨[(.tmp 0 false [(.dat (.int .i64))]), (.tmp 1 true [(.dat (.int .u8)), (.dat (.list (.int .u8)))])], [(.tmp 0 false [(.dat (.list (.int .u8)))]), (.tmp 1 false [(.dat (.int .u8))])], dialtoneref20_Encode⟩), (39, ⟨[(.tmp 0 false [(.dat (.list (.int .u8)))]), (.tmp 1 false [(.dat (.int .i64))])], [(.tmp 0 false [(.dat .bool)])], journal_begins⟩), (40, ⟨[(.tmp 0 false [(.dat (.list (.int .u8)))]), (.tmp 1 false [(.dat (.int .i64))])], [(.tmp 0 false [(.dat .bool)])], dialtoneref20_wrong⟩), (37, ⟨[(.tmp 0 false [(.dat (.list (.int .u8)))]), (.tmp 1 false [(.dat (.list (.int .u8)))])], [(.tmp 0 false [(.dat (.list (.int .u8)))])], journal_joined⟩), (38, ⟨[(.tmp 0 false [(.dat (.list (.int .u8)))])], [(.tmp 0 false [(.dat (.list (.int .u8)))])], dialtoneref20_copied⟩), (27, ⟨[(.tmp 0 true [(.dat (.list (.int .u8))), (.dat (.int .i64)), (.dat (.int .i64))])], [(.tmp 0 false [(.dat .bool)])], journal_Valid⟩), (28, ⟨[(.tmp 0 true [(.dat (.list (.int .u8))), (.dat (.int .i64)), (.dat (.int .i64))])], [(.tmp 0 false [(.dat .bool)])], dialtoneref20_Valid⟩), (36, ⟨[(.tmp 0 false [(.dat (.list (.int .u8)))]), (.tmp 1 false [(.dat (.int .i64))])], [(.tmp 0 true [(.dat (.int .u8)), (.dat (.list (.int .u8)))]), (.tmp 1 false [(.dat (.int .i64))]), (.tmp 2 false [(.dat (.int .u8))])], dialtoneref20_One⟩), (18, ⟨[(.tmp 0 false [(.dat (.list (.int .u8)))])], [(.tmp 0 false [(.dat (.list (.pair (.int .u8) (.list (.int .u8)))))]), (.tmp 1 false [(.dat (.int .i64))]), (.tmp 2 false [(.dat (.int .u8))])], journal_Scan⟩), (20, ⟨[(.tmp 0 false [(.dat (.list (.int .u8)))])], [(.tmp 0 false [(.dat (.list (.pair (.int .u8) (.list (.int .u8)))))]), (.tmp 1 false [(.dat (.int .i64))]), (.tmp 2 false [(.dat (.int .u8))])], dialtoneref20_Scan⟩), (21, ⟨[(.tmp 0 false [(.dat (.list (.int .u8)))])], [(.tmp 0 true [(.dat (.list (.int .u8))), (.dat (.int .i64)), (.dat (.int .i64))]), (.tmp 1 false [(.dat (.list (.pair (.int .u8) (.list (.int .u8)))))])], journal_Recover⟩), (22, ⟨[(.tmp 0 false [(.dat (.list (.int .u8)))])], [(.tmp 0 true [(.dat (.list (.int .u8))), (.dat (.int .i64)), (.dat (.int .i64))]), (.tmp 1 false [(.dat (.list (.pair (.int .u8) (.list (.int .u8)))))])], dialtoneref20_Recover⟩), (19, ⟨[(.tmp 0 false [(.dat (.list (.pair (.int .u8) (.list (.int .u8)))))]), (.tmp 1 false [(.dat (.list (.pair (.int .u8) (.list (.int .u8)))))])], [(.tmp 0 false [(.dat .bool)])], dialtoneref20_Same⟩), (23, ⟨[(.tmp 0 true [(.dat (.list (.int .u8))), (.dat (.int .i64)), (.dat (.int .i64))]), (.tmp 1 true [(.dat (.list (.int .u8))), (.dat (.int .i64)), (.dat (.int .i64))])], [(.tmp 0 false [(.dat .bool)])], dialtoneref20_SameLog⟩), (25, ⟨[(.tmp 0 true [(.dat (.list (.int .u8))), (.dat (.int .i64)), (.dat (.int .i64))]), (.tmp 1 true [(.dat (.int .u8)), (.dat (.list (.int .u8)))])], [(.tmp 0 true [(.dat (.list (.int .u8))), (.dat (.int .i64)), (.dat (.int .i64))]), (.tmp 1 false [(.dat (.int .u8))])], journal_Append⟩)]
theorem cons29_ok : ConL Try.prog cons29 := ⟨con14, con15, con34, con12, con13, con39, con40, con37, con38, con27, con28, con36, con18, con20, con21, con22, con19, con23, con25, trivial⟩
theorem con29 : ConOk Try.prog 29 ⟨[(.tmp 0 true [(.dat (.list (.int .u8))), (.dat (.int .i64)), (.dat (.int .i64))])], [(.tmp 0 true [(.dat (.list (.int .u8))), (.dat (.int .i64)), (.dat (.int .i64))])], journal_Sync⟩ :=
  tree_ok (plan := planOf plan29) (eg := egNo) KK tabL_ok (conOf_ok cons29_ok) Try.func29 (by kernel_rfl) (by kernel_rfl) 10000 (fun a r h => Eq.trans (show _ = journal_Sync a from by kernel_rfl) h)
/-! ### dialtone/journal.Crash -/
def plan24 : List (Nat × PL) := []
noncomputable def journal_Crash : (((List Int) × (Int × Int)) × Int) → Option (List Int) := fun ((a1, (a2, a3)), a4) =>
  bindO (journal_Valid (a1, (a2, a3))) fun x5 =>
  bif (!x5) then
   some ([] : List Int)
  else
   bif ((decide (((0 : Int) ≤ (minA (maxA a2 a4) (((List.length a1) : Nat) : Int))) ∧ ((minA (maxA a2 a4) (((List.length a1) : Nat) : Int)) ≤ (((List.length a1) : Nat) : Int)))) && (decide (((0 : Int) ≤ (minA (maxA a2 a4) (((List.length a1) : Nat) : Int))) ∧ ((minA (maxA a2 a4) (((List.length a1) : Nat) : Int)) ≤ (((Int.toNat (minA (maxA a2 a4) (((List.length a1) : Nat) : Int))) : Nat) : Int))))) then 
    bindO (journal_joined ((List.take (Int.toNat (minA (maxA a2 a4) (((List.length a1) : Nat) : Int))) a1), ([] : List Int))) fun x7 =>
    some x7
   else none
noncomputable def cons24 : List (Nat × CE) := [(14, ⟨[(.tmp 0 false [(.dat (.list (.int .u8)))])], [(.tmp 0 false [(.dat (.int .u32))])], journal_Check⟩), (15, ⟨[(.tmp 0 false [(.dat (.list (.int .u8)))])], [(.tmp 0 false [(.dat (.int .u32))])], dialtoneref20_Check⟩), (34, ⟨[(.tmp 0 false [(.dat (.int .i64))]), (.tmp 1 false [(.dat (.int .i64))])], [(.tmp 0 false [(.dat (.list (.int .u8)))])], dialtoneref20_number⟩), (12, ⟨[(.tmp 0 false [(.dat (.int .i64))]), (.tmp 1 true [(.dat (.int .u8)), (.dat (.list (.int .u8)))])], [(.tmp 0 false [(.dat (.list (.int .u8)))]), (.tmp 1 false [(.dat (.int .u8))])], journal_Encode⟩), (13, ⟨[(.tmp 0 false [(.dat (.int .i64))]), (.tmp 1 true [(.dat (.int .u8)), (.dat (.list (.int .u8)))])], [(.tmp 0 false [(.dat (.list (.int .u8)))]), (.tmp 1 false [(.dat (.int .u8))])], dialtoneref20_Encode⟩), (39, ⟨[(.tmp 0 false [(.dat (.list (.int .u8)))]), (.tmp 1 false [(.dat (.int .i64))])], [(.tmp 0 false [(.dat .bool)])], journal_begins⟩), (40, ⟨[(.tmp 0 false [(.dat (.list (.int .u8)))]), (.tmp 1 false [(.dat (.int .i64))])], [(.tmp 0 false [(.dat .bool)])], dialtoneref20_wrong⟩), (37, ⟨[(.tmp 0 false [(.dat (.list (.int .u8)))]), (.tmp 1 false [(.dat (.list (.int .u8)))])], [(.tmp 0 false [(.dat (.list (.int .u8)))])], journal_joined⟩), (38, ⟨[(.tmp 0 false [(.dat (.list (.int .u8)))])], [(.tmp 0 false [(.dat (.list (.int .u8)))])], dialtoneref20_copied⟩), (27, ⟨[(.tmp 0 true [(.dat (.list (.int .u8))), (.dat (.int .i64)), (.dat (.int .i64))])], [(.tmp 0 false [(.dat .bool)])], journal_Valid⟩), (28, ⟨[(.tmp 0 true [(.dat (.list (.int .u8))), (.dat (.int .i64)), (.dat (.int .i64))])], [(.tmp 0 false [(.dat .bool)])], dialtoneref20_Valid⟩), (36, ⟨[(.tmp 0 false [(.dat (.list (.int .u8)))]), (.tmp 1 false [(.dat (.int .i64))])], [(.tmp 0 true [(.dat (.int .u8)), (.dat (.list (.int .u8)))]), (.tmp 1 false [(.dat (.int .i64))]), (.tmp 2 false [(.dat (.int .u8))])], dialtoneref20_One⟩), (18, ⟨[(.tmp 0 false [(.dat (.list (.int .u8)))])], [(.tmp 0 false [(.dat (.list (.pair (.int .u8) (.list (.int .u8)))))]), (.tmp 1 false [(.dat (.int .i64))]), (.tmp 2 false [(.dat (.int .u8))])], journal_Scan⟩), (20, ⟨[(.tmp 0 false [(.dat (.list (.int .u8)))])], [(.tmp 0 false [(.dat (.list (.pair (.int .u8) (.list (.int .u8)))))]), (.tmp 1 false [(.dat (.int .i64))]), (.tmp 2 false [(.dat (.int .u8))])], dialtoneref20_Scan⟩), (21, ⟨[(.tmp 0 false [(.dat (.list (.int .u8)))])], [(.tmp 0 true [(.dat (.list (.int .u8))), (.dat (.int .i64)), (.dat (.int .i64))]), (.tmp 1 false [(.dat (.list (.pair (.int .u8) (.list (.int .u8)))))])], journal_Recover⟩), (22, ⟨[(.tmp 0 false [(.dat (.list (.int .u8)))])], [(.tmp 0 true [(.dat (.list (.int .u8))), (.dat (.int .i64)), (.dat (.int .i64))]), (.tmp 1 false [(.dat (.list (.pair (.int .u8) (.list (.int .u8)))))])], dialtoneref20_Recover⟩), (19, ⟨[(.tmp 0 false [(.dat (.list (.pair (.int .u8) (.list (.int .u8)))))]), (.tmp 1 false [(.dat (.list (.pair (.int .u8) (.list (.int .u8)))))])], [(.tmp 0 false [(.dat .bool)])], dialtoneref20_Same⟩), (23, ⟨[(.tmp 0 true [(.dat (.list (.int .u8))), (.dat (.int .i64)), (.dat (.int .i64))]), (.tmp 1 true [(.dat (.list (.int .u8))), (.dat (.int .i64)), (.dat (.int .i64))])], [(.tmp 0 false [(.dat .bool)])], dialtoneref20_SameLog⟩), (25, ⟨[(.tmp 0 true [(.dat (.list (.int .u8))), (.dat (.int .i64)), (.dat (.int .i64))]), (.tmp 1 true [(.dat (.int .u8)), (.dat (.list (.int .u8)))])], [(.tmp 0 true [(.dat (.list (.int .u8))), (.dat (.int .i64)), (.dat (.int .i64))]), (.tmp 1 false [(.dat (.int .u8))])], journal_Append⟩), (29, ⟨[(.tmp 0 true [(.dat (.list (.int .u8))), (.dat (.int .i64)), (.dat (.int .i64))])], [(.tmp 0 true [(.dat (.list (.int .u8))), (.dat (.int .i64)), (.dat (.int .i64))])], journal_Sync⟩)]
theorem cons24_ok : ConL Try.prog cons24 := ⟨con14, con15, con34, con12, con13, con39, con40, con37, con38, con27, con28, con36, con18, con20, con21, con22, con19, con23, con25, con29, trivial⟩
theorem con24 : ConOk Try.prog 24 ⟨[(.tmp 0 true [(.dat (.list (.int .u8))), (.dat (.int .i64)), (.dat (.int .i64))]), (.tmp 1 false [(.dat (.int .i64))])], [(.tmp 0 false [(.dat (.list (.int .u8)))])], journal_Crash⟩ :=
  tree_ok (plan := planOf plan24) (eg := egNo) KK tabL_ok (conOf_ok cons24_ok) Try.func24 (by kernel_rfl) (by kernel_rfl) 10000 (fun a r h => Eq.trans (show _ = journal_Crash a from by kernel_rfl) h)
end Go.Proofs.Ytmkbnmjhkghdjaa
