/- Trees of functions, printed by the executor. -/
import Derived.Test.YtheicchelhjcjaaF
import Derived.Test.YtheicchelhjcjaaXB
import Derived.Test.YtheicchelhjcjaaZ2
set_option linter.unusedVariables false
set_option maxRecDepth 1000000
set_option maxHeartbeats 0
namespace Go.Proofs.Ytheicchelhjcjaa
open Go.RowKit
/-! ### dialtone/dialtonelaw23.ForkSteps -/
def plan4 : List (Nat × PL) := []
noncomputable def dialtonelaw23_ForkSteps : (((List ((List UInt8) × (Int × (Int × Int)))) × (Int × (Bool × (Bool × Bool)))) × (Int × (Int × Int))) → Option Bool := fun ((a1, (a2, (a3, (a4, a5)))), (a6, (a7, a8))) =>
  bindO (fork_Step ((a1, (a2, (a3, (a4, a5)))), (a6, (a7, a8)))) fun ((x10, (x11, (x12, (x13, x14)))), (x15, x16)) =>
  bindO (dialtoneref23_Step ((a1, (a2, (a3, (a4, a5)))), (a6, (a7, a8)))) fun ((x18, (x19, (x20, (x21, x22)))), (x23, x24)) =>
  bindO (fork_Valid (a1, (a2, (a3, (a4, a5))))) fun x25 =>
  bindO (dialtoneref23_Valid (a1, (a2, (a3, (a4, a5))))) fun x26 =>
  bif (x25 == x26) then
   bindO (fork_Best (a1, (a2, (a3, (a4, a5))))) fun x27 =>
   bindO (dialtoneref23_Best (a1, (a2, (a3, (a4, a5))))) fun x28 =>
   bif (decide (x27 = x28)) then
    bindO (dialtoneref23_Same ((x10, (x11, (x12, (x13, x14)))), (x18, (x19, (x20, (x21, x22)))))) fun x29 =>
    bif x29 then
     bindO (dialtoneref23_SameActs (x15, x23)) fun x30 =>
     bif x30 then
      bif (decide (x16 = x24)) then
       some Bool.true
      else
       some Bool.false
     else
      some Bool.false
    else
     some Bool.false
   else
    some Bool.false
  else
   some Bool.false
noncomputable def cons4 : List (Nat × CE) := (25, ⟨[(.tmp 0 false [(.dat (.list (.pair (.int .u8) (.pair (.int .i64) (.int .i64)))))]), (.tmp 1 false [(.dat (.int .u8))]), (.tmp 2 false [(.dat (.int .i64))])], [(.tmp 0 false [(.dat (.int .i64))])], dialtonelaw23_count⟩) :: cons25
theorem cons4_ok : ConL Try.prog cons4 := ⟨con25, cons25_ok⟩
theorem con4 : ConOk Try.prog 4 ⟨[(.tmp 0 true [(.dat (.list (.pair .str (.pair (.int .i64) (.pair (.int .u8) (.int .i64)))))), (.dat (.int .i64)), (.dat .bool), (.dat .bool), (.dat .bool)]), (.tmp 1 true [(.dat (.int .u8)), (.dat (.int .i64)), (.dat (.int .i64))])], [(.tmp 0 false [(.dat .bool)])], dialtonelaw23_ForkSteps⟩ :=
  tree_ok (plan := planOf plan4) (eg := egNo) KK tabL_ok (conOf_ok cons4_ok) Try.func4 (by kernel_rfl) (by kernel_rfl) 10000 (fun a r h => Eq.trans (show _ = dialtonelaw23_ForkSteps a from by kernel_rfl) h)
/-! ### dialtone/dialtonelaw23.ForkNews -/
def plan3 : List (Nat × PL) := []
noncomputable def dialtonelaw23_ForkNews : (List ((List UInt8) × Int)) → Option Bool := fun a1 =>
  bindO (fork_New a1) fun ((x3, (x4, (x5, (x6, x7)))), (x8, x9)) =>
  bindO (dialtoneref23_New a1) fun ((x11, (x12, (x13, (x14, x15)))), (x16, x17)) =>
  bindO (dialtoneref23_Same ((x3, (x4, (x5, (x6, x7)))), (x11, (x12, (x13, (x14, x15)))))) fun x18 =>
  bif x18 then
   bindO (dialtoneref23_SameActs (x8, x16)) fun x19 =>
   bif x19 then
    bif (decide (x9 = x17)) then
     bindO (fork_Valid (x11, (x12, (x13, (x14, x15))))) fun x20 =>
     bindO (dialtoneref23_Valid (x11, (x12, (x13, (x14, x15))))) fun x21 =>
     bif (x20 == x21) then
      bindO (fork_Best (x11, (x12, (x13, (x14, x15))))) fun x22 =>
      bindO (dialtoneref23_Best (x11, (x12, (x13, (x14, x15))))) fun x23 =>
      bif (decide (x22 = x23)) then
       some Bool.true
      else
       some Bool.false
     else
      some Bool.false
    else
     some Bool.false
   else
    some Bool.false
  else
   some Bool.false
noncomputable def cons3 : List (Nat × CE) := (4, ⟨[(.tmp 0 true [(.dat (.list (.pair .str (.pair (.int .i64) (.pair (.int .u8) (.int .i64)))))), (.dat (.int .i64)), (.dat .bool), (.dat .bool), (.dat .bool)]), (.tmp 1 true [(.dat (.int .u8)), (.dat (.int .i64)), (.dat (.int .i64))])], [(.tmp 0 false [(.dat .bool)])], dialtonelaw23_ForkSteps⟩) :: cons4
theorem cons3_ok : ConL Try.prog cons3 := ⟨con4, cons4_ok⟩
theorem con3 : ConOk Try.prog 3 ⟨[(.tmp 0 false [(.dat (.list (.pair .str (.int .i64))))])], [(.tmp 0 false [(.dat .bool)])], dialtonelaw23_ForkNews⟩ :=
  tree_ok (plan := planOf plan3) (eg := egNo) KK tabL_ok (conOf_ok cons3_ok) Try.func3 (by kernel_rfl) (by kernel_rfl) 10000 (fun a r h => Eq.trans (show _ = dialtonelaw23_ForkNews a from by kernel_rfl) h)
/-! ### dialtone/dialtonelaw23.ForkRuns -/
def plan5 : List (Nat × PL) := [(35253226045953, (.carry [.mix 17 [(.dat (.list (.pair .str (.pair (.int .i64) (.pair (.int .u8) (.int .i64)))))), (.dat (.int .i64)), (.dat .bool), (.dat .bool), (.dat .bool)], .mix 7 [(.dat (.list (.pair .str (.pair (.int .i64) (.pair (.int .u8) (.int .i64)))))), (.dat (.int .i64)), (.dat .bool), (.dat .bool), (.dat .bool)]])), (4731607904558101301254, (.carry [.tmp 11 false [(.dat (.int .i64))], .mix 17 [(.dat (.list (.pair .str (.pair (.int .i64) (.pair (.int .u8) (.int .i64)))))), (.dat (.int .i64)), (.dat .bool), (.dat .bool), (.dat .bool)], .mix 7 [(.dat (.list (.pair .str (.pair (.int .i64) (.pair (.int .u8) (.int .i64)))))), (.dat (.int .i64)), (.dat .bool), (.dat .bool), (.dat .bool)]])), (2422583247133747866242049, (.carry []))]
noncomputable def dialtonelaw23_ForkRuns : ((List ((List UInt8) × Int)) × (List (Int × (Int × Int)))) → Option Bool := fun (a1, a2) =>
  bindO (fork_New a1) fun ((x4, (x5, (x6, (x7, x8)))), (x9, x10)) =>
  bindO (dialtoneref23_New a1) fun ((x12, (x13, (x14, (x15, x16)))), (x17, x18)) =>
  bif (decide (x10 ≠ x18)) then
   some Bool.false
  else
   bindO (dialtoneref23_Same ((x4, (x5, (x6, (x7, x8)))), (x12, (x13, (x14, (x15, x16)))))) fun x19 =>
   bif (!x19) then
    some Bool.false
   else
    joinO (loopO (fun (v20, ((v21, (v22, (v23, (v24, v25)))), (v26, (v27, (v28, (v29, v30)))))) =>
      joinO (bif (decide (v20 < (((List.length a2) : Nat) : Int))) then
        bif (decide (v20 < (60 : Int))) then
         bif (decide (x10 = (0 : Int))) then
          some (Sum.inl ())
         else
          outO (outO (some (Sum.inl ((v21, (v22, (v23, (v24, v25)))), (v26, (v27, (v28, (v29, v30))))))))
        else
         outO (outO (some (Sum.inl ((v21, (v22, (v23, (v24, v25)))), (v26, (v27, (v28, (v29, v30))))))))
       else
        outO (outO (some (Sum.inl ((v21, (v22, (v23, (v24, v25)))), (v26, (v27, (v28, (v29, v30))))))))) fun _ =>
      bindO (fork_Valid (v26, (v27, (v28, (v29, v30))))) fun x31 =>
      bif (!x31) then
       outO (outO (some Bool.false))
      else
       bif (decide (((0 : Int) ≤ v20) ∧ (v20 < (((List.length a2) : Nat) : Int)))) then 
        bindO a2[(Int.toNat v20)]? fun x32 =>
        bindO (fork_Step ((v26, (v27, (v28, (v29, v30)))), (x32.1, (x32.2.1, x32.2.2)))) fun ((x34, (x35, (x36, (x37, x38)))), (x39, x40)) =>
        bif (decide (((0 : Int) ≤ v20) ∧ (v20 < (((List.length a2) : Nat) : Int)))) then 
         bindO a2[(Int.toNat v20)]? fun x41 =>
         bindO (dialtoneref23_Step ((v21, (v22, (v23, (v24, v25)))), (x41.1, (x41.2.1, x41.2.2)))) fun ((x43, (x44, (x45, (x46, x47)))), (x48, x49)) =>
         bindO (dialtoneref23_Same ((x34, (x35, (x36, (x37, x38)))), (x43, (x44, (x45, (x46, x47)))))) fun x50 =>
         bif (!x50) then
          outO (outO (some Bool.false))
         else
          bindO (dialtoneref23_SameActs (x39, x48)) fun x51 =>
          bif (!x51) then
           outO (outO (some Bool.false))
          else
           bif (decide (x40 ≠ x49)) then
            outO (outO (some Bool.false))
           else
            bif (decide (x40 = (0 : Int))) then
             some (Sum.inl ((Go.IntKind.wrap .i64 (v20 + (1 : Int))), ((x43, (x44, (x45, (x46, x47)))), (x34, (x35, (x36, (x37, x38)))))))
            else
             some (Sum.inl ((Go.IntKind.wrap .i64 (v20 + (1 : Int))), ((v21, (v22, (v23, (v24, v25)))), (v26, (v27, (v28, (v29, v30)))))))
        else none
       else none) ((0 : Int), ((x12, (x13, (x14, (x15, x16)))), (x4, (x5, (x6, (x7, x8))))))) fun ((v54, (v55, (v56, (v57, v58)))), (v59, (v60, (v61, (v62, v63))))) =>
    some Bool.true
noncomputable def cons5 : List (Nat × CE) := (3, ⟨[(.tmp 0 false [(.dat (.list (.pair .str (.int .i64))))])], [(.tmp 0 false [(.dat .bool)])], dialtonelaw23_ForkNews⟩) :: cons3
theorem cons5_ok : ConL Try.prog cons5 := ⟨con3, cons3_ok⟩
theorem con5 : ConOk Try.prog 5 ⟨[(.tmp 0 false [(.dat (.list (.pair .str (.int .i64))))]), (.tmp 1 false [(.dat (.list (.pair (.int .u8) (.pair (.int .i64) (.int .i64)))))])], [(.tmp 0 false [(.dat .bool)])], dialtonelaw23_ForkRuns⟩ :=
  tree_ok (plan := planOf plan5) (eg := egNo) KK tabL_ok (conOf_ok cons5_ok) Try.func5 (by kernel_rfl) (by kernel_rfl) 10000 (fun a r h => Eq.trans (show _ = dialtonelaw23_ForkRuns a from by kernel_rfl) h)
end Go.Proofs.Ytheicchelhjcjaa
