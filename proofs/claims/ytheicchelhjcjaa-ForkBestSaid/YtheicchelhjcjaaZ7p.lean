import Derived.Test.YtheicchelhjcjaaFp
import Derived.Test.YtheicchelhjcjaaXBp
import Derived.Test.YtheicchelhjcjaaZ2p
import Derived.Test.YtheicchelhjcjaaZ6p
set_option linter.unusedVariables false
set_option maxRecDepth 1000000
set_option maxHeartbeats 0
namespace Go.Proofs.Ytheicchelhjcjaa
open Go.RowKit
def plan6 : List (Nat × PL) := [(35253226045953, (.carry [])), (18049651735527937, (.carry [])), (2422583247133816450713606, (.carry [.tmp 11 false [(.dat (.int .i64))]]))]
noncomputable def dialtonelaw23_ForkOne : ((List ((List UInt8) × Int)) × (List (Int × (Int × Int)))) → Option Bool := fun (a1, a2) =>
 bindO (dialtonelaw23_run (a1, a2)) fun ((x4, (x5, (x6, (x7, x8)))), (x9, (x10, x11))) =>
 bif (!x11) then
 some Bool.true
 else
 bindO (dialtonelaw23_all (x9, (4 : Int))) fun x13 =>
 bindO (dialtonelaw23_all (x9, (6 : Int))) fun x14 =>
 joinO (bif (decide ((Go.IntKind.wrap .i64 (x13 + x14)) > (1 : Int))) then
 outO (some Bool.false)
 else
 bindO (dialtoneref23_AnyOpen (x4, (x5, (x6, (x7, x8))))) fun x16 =>
 bif (!x16) then
 bif (decide ((Go.IntKind.wrap .i64 (x13 + x14)) ≠ (1 : Int))) then
 outO (some Bool.false)
 else
 some (Sum.inl ())
 else
 some (Sum.inl ())) fun _ =>
 joinO (loopO (fun v18 =>
 bif (decide (v18 < (((List.length x4) : Nat) : Int))) then
 bif (decide (((0 : Int) ≤ v18) ∧ (v18 < (((List.length x4) : Nat) : Int)))) then 
 bindO x4[(Int.toNat v18)]? fun x19 =>
 bif (decide (x19.2.2.1 = (5 : Int))) then
 bindO (dialtonelaw23_count (x9, ((4 : Int), v18))) fun x20 =>
 bindO (dialtonelaw23_count (x9, ((5 : Int), v18))) fun x21 =>
 bif (decide (x19.2.2.2 < (300 : Int))) then
 bif (decide ((Go.IntKind.wrap .i64 (x20 + x21)) ≠ (1 : Int))) then
 outO (outO (some Bool.false))
 else
 bif (!(decide (x19.2.2.2 < (300 : Int)))) then
 bif (decide ((Go.IntKind.wrap .i64 (x20 + x21)) ≠ (0 : Int))) then
 outO (outO (some Bool.false))
 else
 bif ((decide (x20 = (1 : Int))) != (decide (x5 = v18))) then
 outO (outO (some Bool.false))
 else
 some (Sum.inl (Go.IntKind.wrap .i64 (v18 + (1 : Int))))
 else
 bif ((decide (x20 = (1 : Int))) != (decide (x5 = v18))) then
 outO (outO (some Bool.false))
 else
 some (Sum.inl (Go.IntKind.wrap .i64 (v18 + (1 : Int))))
 else
 bif (!(decide (x19.2.2.2 < (300 : Int)))) then
 bif (decide ((Go.IntKind.wrap .i64 (x20 + x21)) ≠ (0 : Int))) then
 outO (outO (some Bool.false))
 else
 bif ((decide (x20 = (1 : Int))) != (decide (x5 = v18))) then
 outO (outO (some Bool.false))
 else
 some (Sum.inl (Go.IntKind.wrap .i64 (v18 + (1 : Int))))
 else
 bif ((decide (x20 = (1 : Int))) != (decide (x5 = v18))) then
 outO (outO (some Bool.false))
 else
 some (Sum.inl (Go.IntKind.wrap .i64 (v18 + (1 : Int))))
 else
 bindO (dialtonelaw23_count (x9, ((4 : Int), v18))) fun x29 =>
 bindO (dialtonelaw23_count (x9, ((5 : Int), v18))) fun x30 =>
 bif (decide ((Go.IntKind.wrap .i64 (x29 + x30)) ≠ (0 : Int))) then
 outO (outO (some Bool.false))
 else
 bif ((decide (x29 = (1 : Int))) != (decide (x5 = v18))) then
 outO (outO (some Bool.false))
 else
 some (Sum.inl (Go.IntKind.wrap .i64 (v18 + (1 : Int))))
 else none
 else
 outO (some (Sum.inl ()))) (0 : Int)) fun _ =>
 some Bool.true
noncomputable def cons6 : List (Nat × CE) := [(63, ⟨[(.tmp 0 false [(.dat (.int .u8))])], [(.tmp 0 false [(.dat .bool)])], fork_live⟩), (50, ⟨[(.tmp 0 false [(.dat (.int .u8))])], [(.tmp 0 false [(.dat .bool)])], fork_open⟩), (32, ⟨[(.tmp 0 false [(.dat (.list (.pair .str (.pair (.int .i64) (.pair (.int .u8) (.int .i64))))))])], [(.tmp 0 false [(.dat .bool)])], fork_validOrder⟩), (34, ⟨[(.tmp 0 true [(.dat (.list (.pair .str (.pair (.int .i64) (.pair (.int .u8) (.int .i64)))))), (.dat (.int .i64)), (.dat .bool), (.dat .bool), (.dat .bool)]), (.tmp 1 true [(.dat (.int .i64)), (.dat (.int .i64)), (.dat (.int .i64)), (.dat (.int .i64)), (.dat .bool), (.dat .bool)])], [(.tmp 0 false [(.dat .bool)])], fork_validWinner⟩), (33, ⟨[(.tmp 0 false [(.dat (.list (.pair .str (.pair (.int .i64) (.pair (.int .u8) (.int .i64))))))])], [(.tmp 0 true [(.dat (.int .i64)), (.dat (.int .i64)), (.dat (.int .i64)), (.dat (.int .i64)), (.dat .bool), (.dat .bool)])], fork_count⟩), (31, ⟨[(.tmp 0 false [(.dat (.list (.pair .str (.pair (.int .i64) (.pair (.int .u8) (.int .i64))))))])], [(.tmp 0 false [(.dat .bool)])], fork_validBranches⟩), (15, ⟨[(.tmp 0 true [(.dat (.list (.pair .str (.pair (.int .i64) (.pair (.int .u8) (.int .i64)))))), (.dat (.int .i64)), (.dat .bool), (.dat .bool), (.dat .bool)])], [(.tmp 0 false [(.dat .bool)])], fork_Valid⟩), (17, ⟨[(.tmp 0 true [(.dat (.list (.pair .str (.pair (.int .i64) (.pair (.int .u8) (.int .i64)))))), (.dat (.int .i64)), (.dat .bool), (.dat .bool), (.dat .bool)])], [(.tmp 0 false [(.dat (.int .i64))])], fork_Best⟩), (36, ⟨[(.tmp 0 true [(.dat (.list (.pair .str (.pair (.int .i64) (.pair (.int .u8) (.int .i64)))))), (.dat (.int .i64)), (.dat .bool), (.dat .bool), (.dat .bool)]), (.tmp 1 true [(.dat (.int .u8)), (.dat (.int .i64)), (.dat (.int .i64))])], [(.tmp 0 false [(.dat (.int .u8))])], fork_check⟩), (46, ⟨[(.tmp 0 true [(.dat .str), (.dat (.int .i64)), (.dat (.int .u8)), (.dat (.int .i64))])], [(.tmp 0 false [(.dat .bool)])], dialtoneref23_Open⟩), (24, ⟨[(.tmp 0 true [(.dat (.list (.pair .str (.pair (.int .i64) (.pair (.int .u8) (.int .i64)))))), (.dat (.int .i64)), (.dat .bool), (.dat .bool), (.dat .bool)])], [(.tmp 0 false [(.dat .bool)])], dialtoneref23_AnyOpen⟩), (60, ⟨[(.tmp 0 true [(.dat .str), (.dat (.int .i64)), (.dat (.int .u8)), (.dat (.int .i64))])], [(.tmp 0 false [(.dat .bool)])], dialtoneref23_Live⟩), (59, ⟨[(.tmp 0 true [(.dat .str), (.dat (.int .i64)), (.dat (.int .u8)), (.dat (.int .i64))])], [(.tmp 0 false [(.dat .bool)])], dialtoneref23_early⟩), (35, ⟨[(.tmp 0 true [(.dat (.list (.pair .str (.pair (.int .i64) (.pair (.int .u8) (.int .i64)))))), (.dat (.int .i64)), (.dat .bool), (.dat .bool), (.dat .bool)]), (.tmp 1 false [(.dat (.int .i64))])], [(.tmp 0 false [(.dat .bool)])], dialtoneref23_branch⟩), (16, ⟨[(.tmp 0 true [(.dat (.list (.pair .str (.pair (.int .i64) (.pair (.int .u8) (.int .i64)))))), (.dat (.int .i64)), (.dat .bool), (.dat .bool), (.dat .bool)])], [(.tmp 0 false [(.dat .bool)])], dialtoneref23_Valid⟩), (18, ⟨[(.tmp 0 true [(.dat (.list (.pair .str (.pair (.int .i64) (.pair (.int .u8) (.int .i64)))))), (.dat (.int .i64)), (.dat .bool), (.dat .bool), (.dat .bool)])], [(.tmp 0 false [(.dat (.int .i64))])], dialtoneref23_Best⟩), (45, ⟨[(.tmp 0 true [(.dat (.list (.pair .str (.pair (.int .i64) (.pair (.int .u8) (.int .i64)))))), (.dat (.int .i64)), (.dat .bool), (.dat .bool), (.dat .bool)])], [(.tmp 0 true [(.dat (.list (.pair .str (.pair (.int .i64) (.pair (.int .u8) (.int .i64)))))), (.dat (.int .i64)), (.dat .bool), (.dat .bool), (.dat .bool)]), (.tmp 1 false [(.dat (.list (.pair (.int .u8) (.pair (.int .i64) (.int .i64)))))])], dialtoneref23_stop⟩), (56, ⟨[(.tmp 0 true [(.dat (.list (.pair .str (.pair (.int .i64) (.pair (.int .u8) (.int .i64)))))), (.dat (.int .i64)), (.dat .bool), (.dat .bool), (.dat .bool)])], [(.tmp 0 false [(.dat (.int .i64))])], dialtoneref23_first⟩), (57, ⟨[(.tmp 0 true [(.dat (.list (.pair .str (.pair (.int .i64) (.pair (.int .u8) (.int .i64)))))), (.dat (.int .i64)), (.dat .bool), (.dat .bool), (.dat .bool)])], [(.tmp 0 true [(.dat (.list (.pair .str (.pair (.int .i64) (.pair (.int .u8) (.int .i64)))))), (.dat (.int .i64)), (.dat .bool), (.dat .bool), (.dat .bool)])], dialtoneref23_skip⟩), (30, ⟨[(.tmp 0 true [(.dat (.list (.pair .str (.pair (.int .i64) (.pair (.int .u8) (.int .i64)))))), (.dat (.int .i64)), (.dat .bool), (.dat .bool), (.dat .bool)])], [(.tmp 0 true [(.dat (.list (.pair .str (.pair (.int .i64) (.pair (.int .u8) (.int .i64)))))), (.dat (.int .i64)), (.dat .bool), (.dat .bool), (.dat .bool)]), (.tmp 1 false [(.dat (.list (.pair (.int .u8) (.pair (.int .i64) (.int .i64)))))])], dialtoneref23_goOn⟩), (41, ⟨[(.tmp 0 true [(.dat (.list (.pair .str (.pair (.int .i64) (.pair (.int .u8) (.int .i64)))))), (.dat (.int .i64)), (.dat .bool), (.dat .bool), (.dat .bool)]), (.tmp 1 true [(.dat (.int .u8)), (.dat (.int .i64)), (.dat (.int .i64))])], [(.tmp 0 false [(.dat (.int .u8))])], dialtoneref23_wrong⟩), (13, ⟨[(.tmp 0 true [(.dat (.list (.pair .str (.pair (.int .i64) (.pair (.int .u8) (.int .i64)))))), (.dat (.int .i64)), (.dat .bool), (.dat .bool), (.dat .bool)]), (.tmp 1 true [(.dat (.list (.pair .str (.pair (.int .i64) (.pair (.int .u8) (.int .i64)))))), (.dat (.int .i64)), (.dat .bool), (.dat .bool), (.dat .bool)])], [(.tmp 0 false [(.dat .bool)])], dialtoneref23_Same⟩), (14, ⟨[(.tmp 0 false [(.dat (.list (.pair (.int .u8) (.pair (.int .i64) (.int .i64)))))]), (.tmp 1 false [(.dat (.list (.pair (.int .u8) (.pair (.int .i64) (.int .i64)))))])], [(.tmp 0 false [(.dat .bool)])], dialtoneref23_SameActs⟩), (12, ⟨[(.tmp 0 false [(.dat (.list (.pair .str (.int .i64))))])], [(.tmp 0 true [(.dat (.list (.pair .str (.pair (.int .i64) (.pair (.int .u8) (.int .i64)))))), (.dat (.int .i64)), (.dat .bool), (.dat .bool), (.dat .bool)]), (.tmp 1 false [(.dat (.list (.pair (.int .u8) (.pair (.int .i64) (.int .i64)))))]), (.tmp 2 false [(.dat (.int .u8))])], dialtoneref23_New⟩), (21, ⟨[(.tmp 0 true [(.dat (.list (.pair .str (.pair (.int .i64) (.pair (.int .u8) (.int .i64)))))), (.dat (.int .i64)), (.dat .bool), (.dat .bool), (.dat .bool)]), (.tmp 1 true [(.dat (.int .u8)), (.dat (.int .i64)), (.dat (.int .i64))])], [(.tmp 0 true [(.dat (.list (.pair .str (.pair (.int .i64) (.pair (.int .u8) (.int .i64)))))), (.dat (.int .i64)), (.dat .bool), (.dat .bool), (.dat .bool)]), (.tmp 1 false [(.dat (.list (.pair (.int .u8) (.pair (.int .i64) (.int .i64)))))]), (.tmp 2 false [(.dat (.int .u8))])], dialtoneref23_Step⟩), (37, ⟨[.tmp 0 false [.dat (.list (.pair .str (.pair (.int .i64) (.pair (.int .u8) (.int .i64)))))]], [.tmp 0 false [.own 1 49 (.pair .str (.pair (.int .i64) (.pair (.int .u8) (.int .i64))))]], cloneG⟩), (62, ⟨[], riB, (fun _ => none)⟩), (19, ⟨[], riB, (fun _ => some true)⟩), (10, ⟨[], riB, (fun _ => some true)⟩), (20, ⟨[(.tmp 0 true [(.dat (.list (.pair .str (.pair (.int .i64) (.pair (.int .u8) (.int .i64)))))), (.dat (.int .i64)), (.dat .bool), (.dat .bool), (.dat .bool)]), (.tmp 1 true [(.dat (.int .u8)), (.dat (.int .i64)), (.dat (.int .i64))])], [(.tmp 0 true [(.dat (.list (.pair .str (.pair (.int .i64) (.pair (.int .u8) (.int .i64)))))), (.dat (.int .i64)), (.dat .bool), (.dat .bool), (.dat .bool)]), (.tmp 1 false [(.dat (.list (.pair (.int .u8) (.pair (.int .i64) (.int .i64)))))]), (.tmp 2 false [(.dat (.int .u8))])], fork_Step⟩), (11, ⟨[(.tmp 0 false [(.dat (.list (.pair .str (.int .i64))))])], [(.tmp 0 true [(.dat (.list (.pair .str (.pair (.int .i64) (.pair (.int .u8) (.int .i64)))))), (.dat (.int .i64)), (.dat .bool), (.dat .bool), (.dat .bool)]), (.tmp 1 false [(.dat (.list (.pair (.int .u8) (.pair (.int .i64) (.int .i64)))))]), (.tmp 2 false [(.dat (.int .u8))])], fork_New⟩), (23, ⟨[(.tmp 0 false [(.dat (.list (.pair (.int .u8) (.pair (.int .i64) (.int .i64)))))]), (.tmp 1 false [(.dat (.int .u8))])], [(.tmp 0 false [(.dat (.int .i64))])], dialtonelaw23_all⟩), (25, ⟨[(.tmp 0 false [(.dat (.list (.pair (.int .u8) (.pair (.int .i64) (.int .i64)))))]), (.tmp 1 false [(.dat (.int .u8))]), (.tmp 2 false [(.dat (.int .i64))])], [(.tmp 0 false [(.dat (.int .i64))])], dialtonelaw23_count⟩), (22, ⟨[(.tmp 0 false [(.dat (.list (.pair .str (.int .i64))))]), (.tmp 1 false [(.dat (.list (.pair (.int .u8) (.pair (.int .i64) (.int .i64)))))])], [(.tmp 0 true [(.dat (.list (.pair .str (.pair (.int .i64) (.pair (.int .u8) (.int .i64)))))), (.dat (.int .i64)), (.dat .bool), (.dat .bool), (.dat .bool)]), (.tmp 1 false [(.dat (.list (.pair (.int .u8) (.pair (.int .i64) (.int .i64)))))]), (.tmp 2 false [(.dat (.list (.pair (.int .u8) (.pair (.int .i64) (.int .i64)))))]), (.tmp 3 false [(.dat .bool)])], dialtonelaw23_run⟩)]
theorem cons6_ok : ConL Try.prog cons6 := ⟨con63, con50, con32, con34, con33, con31, con15, con17, con36, con46, con24, con60, con59, con35, con16, con18, con45, con56, con57, con30, con41, con13, con14, con12, con21, clone_con37, noSym, con_true (by kernel_rfl) live_o, con_true (by kernel_rfl) known_o, con20, con11, con23, con25, con22, trivial⟩
theorem con6 : ConOk Try.prog 6 ⟨[(.tmp 0 false [(.dat (.list (.pair .str (.int .i64))))]), (.tmp 1 false [(.dat (.list (.pair (.int .u8) (.pair (.int .i64) (.int .i64)))))])], [(.tmp 0 false [(.dat .bool)])], dialtonelaw23_ForkOne⟩ :=
  tree_ok (plan := planOf plan6) (eg := egNo) KK tabL_ok (conOf_ok cons6_ok) Try.func6 (by kernel_rfl) (by kernel_rfl) 10000 (fun a r h => Eq.trans (show _ = dialtonelaw23_ForkOne a from by kernel_rfl) h)
def plan7 : List (Nat × PL) := [(35253226045953, (.carry [.tmp 9 false [(.dat .bool)]])), (4731607904558101301254, (.carry [.tmp 10 false [(.dat (.int .i64))], .tmp 9 false [(.dat .bool)]])), (9241421688590303745, (.carry [])), (1240362622532514091349837830, (.carry [.tmp 11 false [(.dat (.int .i64))]])), (325153619321163373962811888108033, (.carry [.tmp 14 false [(.dat (.int .i64))], .tmp 12 false [(.dat .bool)]])), (43641380036263450370102968113250274640385, (.carry [.tmp 13 false [(.dat (.int .i64))], .tmp 12 false [(.dat .bool)]])), (5857446875251837918115979506216898557608357791750, (.carry [.tmp 13 false [(.dat (.int .i64))], .tmp 12 false [(.dat .bool)]]))]
noncomputable def dialtonelaw23_ForkStops : ((List ((List UInt8) × Int)) × (List (Int × (Int × Int)))) → Option Bool := fun (a1, a2) =>
 bindO (dialtonelaw23_run (a1, a2)) fun ((x4, (x5, (x6, (x7, x8)))), (x9, (x10, x11))) =>
 bif (!x11) then
 some Bool.true
 else
 joinO (loopO (fun (v13, v14) =>
 bif (decide (v13 < (((List.length x10) : Nat) : Int))) then
 bif v14 then
 some (Sum.inl ((Go.IntKind.wrap .i64 (v13 + (1 : Int))), Bool.true))
 else
 bif (decide (((0 : Int) ≤ v13) ∧ (v13 < (((List.length x10) : Nat) : Int)))) then 
 bindO x10[(Int.toNat v13)]? fun x16 =>
 bif (decide (x16.1 = (4 : Int))) then
 some (Sum.inl ((Go.IntKind.wrap .i64 (v13 + (1 : Int))), Bool.true))
 else
 bif (decide (((0 : Int) ≤ v13) ∧ (v13 < (((List.length x10) : Nat) : Int)))) then 
 bindO x10[(Int.toNat v13)]? fun x18 =>
 bif (decide (x18.1 = (2 : Int))) then
 bif (decide (((0 : Int) ≤ v13) ∧ (v13 < (((List.length x10) : Nat) : Int)))) then 
 bindO x10[(Int.toNat v13)]? fun x19 =>
 some (Sum.inl ((Go.IntKind.wrap .i64 (v13 + (1 : Int))), (decide (x19.2.2 ≥ (600 : Int)))))
 else none
 else
 some (Sum.inl ((Go.IntKind.wrap .i64 (v13 + (1 : Int))), Bool.false))
 else none
 else none
 else
 outO (some (Sum.inl v14))) ((0 : Int), Bool.false)) fun v22 =>
 bif v22 then
 joinO (loopO (fun v23 =>
 bif (decide (v23 < (((List.length x4) : Nat) : Int))) then
 joinO (joinO (loopO (fun (v24, v25) =>
 bif (decide (v24 < (((List.length x10) : Nat) : Int))) then
 bif v25 then
 some (Sum.inl ((Go.IntKind.wrap .i64 (v24 + (1 : Int))), Bool.true))
 else
 bif (decide (((0 : Int) ≤ v24) ∧ (v24 < (((List.length x10) : Nat) : Int)))) then 
 bindO x10[(Int.toNat v24)]? fun x27 =>
 bif (decide (x27.1 = (1 : Int))) then
 bif (decide (((0 : Int) ≤ v24) ∧ (v24 < (((List.length x10) : Nat) : Int)))) then 
 bindO x10[(Int.toNat v24)]? fun x28 =>
 some (Sum.inl ((Go.IntKind.wrap .i64 (v24 + (1 : Int))), (decide (x28.2.1 = v23))))
 else none
 else
 some (Sum.inl ((Go.IntKind.wrap .i64 (v24 + (1 : Int))), Bool.false))
 else none
 else
 outO (some (Sum.inl (v24, v25)))) ((0 : Int), Bool.false)) fun (v31, v32) =>
 bindO (dialtonelaw23_count (x9, ((2 : Int), v23))) fun x33 =>
 bif (decide (x33 > (1 : Int))) then
 outO (outO (outO (some Bool.false)))
 else
 bif (decide (x33 = (1 : Int))) then
 bif (!v32) then
 outO (outO (outO (some Bool.false)))
 else
 bif v32 then
 bif (decide (((0 : Int) ≤ v23) ∧ (v23 < (((List.length x4) : Nat) : Int)))) then 
 bindO x4[(Int.toNat v23)]? fun x34 =>
 bif (decide (x34.2.2.1 ≠ (5 : Int))) then
 bif (decide (x33 ≠ (1 : Int))) then
 outO (outO (outO (some Bool.false)))
 else
 some (Sum.inl (x33, v32))
 else
 some (Sum.inl (x33, v32))
 else none
 else
 some (Sum.inl (x33, v32))
 else
 bif v32 then
 bif (decide (((0 : Int) ≤ v23) ∧ (v23 < (((List.length x4) : Nat) : Int)))) then 
 bindO x4[(Int.toNat v23)]? fun x35 =>
 bif (decide (x35.2.2.1 ≠ (5 : Int))) then
 bif (decide (x33 ≠ (1 : Int))) then
 outO (outO (outO (some Bool.false)))
 else
 some (Sum.inl (x33, v32))
 else
 some (Sum.inl (x33, v32))
 else none
 else
 some (Sum.inl (x33, v32))) fun (v36, v37) =>
 some (Sum.inl (Go.IntKind.wrap .i64 (v23 + (1 : Int))))
 else
 outO (some (Sum.inl ()))) (0 : Int)) fun _ =>
 some Bool.true
 else
 bindO (dialtonelaw23_all (x9, (4 : Int))) fun x40 =>
 joinO (loopO (fun v41 =>
 bif (decide (v41 < (((List.length x4) : Nat) : Int))) then
 joinO (joinO (loopO (fun (v42, v43) =>
 bif (decide (v42 < (((List.length x10) : Nat) : Int))) then
 bif v43 then
 some (Sum.inl ((Go.IntKind.wrap .i64 (v42 + (1 : Int))), Bool.true))
 else
 bif (decide (((0 : Int) ≤ v42) ∧ (v42 < (((List.length x10) : Nat) : Int)))) then 
 bindO x10[(Int.toNat v42)]? fun x45 =>
 bif (decide (x45.1 = (1 : Int))) then
 bif (decide (((0 : Int) ≤ v42) ∧ (v42 < (((List.length x10) : Nat) : Int)))) then 
 bindO x10[(Int.toNat v42)]? fun x46 =>
 some (Sum.inl ((Go.IntKind.wrap .i64 (v42 + (1 : Int))), (decide (x46.2.1 = v41))))
 else none
 else
 some (Sum.inl ((Go.IntKind.wrap .i64 (v42 + (1 : Int))), Bool.false))
 else none
 else
 outO (some (Sum.inl (v42, v43)))) ((0 : Int), Bool.false)) fun (v49, v50) =>
 bindO (dialtonelaw23_count (x9, ((2 : Int), v41))) fun x51 =>
 bif (decide (x51 > (1 : Int))) then
 outO (outO (outO (some Bool.false)))
 else
 bif (decide (x51 = (1 : Int))) then
 bif (!v50) then
 outO (outO (outO (some Bool.false)))
 else
 bif (decide (x40 > (0 : Int))) then
 bif v50 then
 bif (decide (((0 : Int) ≤ v41) ∧ (v41 < (((List.length x4) : Nat) : Int)))) then 
 bindO x4[(Int.toNat v41)]? fun x52 =>
 bif (decide (x52.2.2.1 ≠ (5 : Int))) then
 bif (decide (x51 ≠ (1 : Int))) then
 outO (outO (outO (some Bool.false)))
 else
 bif (!(decide (x40 > (0 : Int)))) then
 bif (decide (x51 ≠ (0 : Int))) then
 outO (outO (outO (some Bool.false)))
 else
 some (Sum.inl (x51, v50))
 else
 some (Sum.inl (x51, v50))
 else
 bif (!(decide (x40 > (0 : Int)))) then
 bif (decide (x51 ≠ (0 : Int))) then
 outO (outO (outO (some Bool.false)))
 else
 some (Sum.inl (x51, v50))
 else
 some (Sum.inl (x51, v50))
 else none
 else
 bif (!(decide (x40 > (0 : Int)))) then
 bif (decide (x51 ≠ (0 : Int))) then
 outO (outO (outO (some Bool.false)))
 else
 some (Sum.inl (x51, v50))
 else
 some (Sum.inl (x51, v50))
 else
 bif (!(decide (x40 > (0 : Int)))) then
 bif (decide (x51 ≠ (0 : Int))) then
 outO (outO (outO (some Bool.false)))
 else
 some (Sum.inl (x51, v50))
 else
 some (Sum.inl (x51, v50))
 else
 bif (decide (x40 > (0 : Int))) then
 bif v50 then
 bif (decide (((0 : Int) ≤ v41) ∧ (v41 < (((List.length x4) : Nat) : Int)))) then 
 bindO x4[(Int.toNat v41)]? fun x53 =>
 bif (decide (x53.2.2.1 ≠ (5 : Int))) then
 bif (decide (x51 ≠ (1 : Int))) then
 outO (outO (outO (some Bool.false)))
 else
 bif (!(decide (x40 > (0 : Int)))) then
 bif (decide (x51 ≠ (0 : Int))) then
 outO (outO (outO (some Bool.false)))
 else
 some (Sum.inl (x51, v50))
 else
 some (Sum.inl (x51, v50))
 else
 bif (!(decide (x40 > (0 : Int)))) then
 bif (decide (x51 ≠ (0 : Int))) then
 outO (outO (outO (some Bool.false)))
 else
 some (Sum.inl (x51, v50))
 else
 some (Sum.inl (x51, v50))
 else none
 else
 bif (!(decide (x40 > (0 : Int)))) then
 bif (decide (x51 ≠ (0 : Int))) then
 outO (outO (outO (some Bool.false)))
 else
 some (Sum.inl (x51, v50))
 else
 some (Sum.inl (x51, v50))
 else
 bif (!(decide (x40 > (0 : Int)))) then
 bif (decide (x51 ≠ (0 : Int))) then
 outO (outO (outO (some Bool.false)))
 else
 some (Sum.inl (x51, v50))
 else
 some (Sum.inl (x51, v50))) fun (v54, v55) =>
 some (Sum.inl (Go.IntKind.wrap .i64 (v41 + (1 : Int))))
 else
 outO (some (Sum.inl ()))) (0 : Int)) fun _ =>
 some Bool.true
noncomputable def cons7 : List (Nat × CE) := [(63, ⟨[(.tmp 0 false [(.dat (.int .u8))])], [(.tmp 0 false [(.dat .bool)])], fork_live⟩), (50, ⟨[(.tmp 0 false [(.dat (.int .u8))])], [(.tmp 0 false [(.dat .bool)])], fork_open⟩), (32, ⟨[(.tmp 0 false [(.dat (.list (.pair .str (.pair (.int .i64) (.pair (.int .u8) (.int .i64))))))])], [(.tmp 0 false [(.dat .bool)])], fork_validOrder⟩), (34, ⟨[(.tmp 0 true [(.dat (.list (.pair .str (.pair (.int .i64) (.pair (.int .u8) (.int .i64)))))), (.dat (.int .i64)), (.dat .bool), (.dat .bool), (.dat .bool)]), (.tmp 1 true [(.dat (.int .i64)), (.dat (.int .i64)), (.dat (.int .i64)), (.dat (.int .i64)), (.dat .bool), (.dat .bool)])], [(.tmp 0 false [(.dat .bool)])], fork_validWinner⟩), (33, ⟨[(.tmp 0 false [(.dat (.list (.pair .str (.pair (.int .i64) (.pair (.int .u8) (.int .i64))))))])], [(.tmp 0 true [(.dat (.int .i64)), (.dat (.int .i64)), (.dat (.int .i64)), (.dat (.int .i64)), (.dat .bool), (.dat .bool)])], fork_count⟩), (31, ⟨[(.tmp 0 false [(.dat (.list (.pair .str (.pair (.int .i64) (.pair (.int .u8) (.int .i64))))))])], [(.tmp 0 false [(.dat .bool)])], fork_validBranches⟩), (15, ⟨[(.tmp 0 true [(.dat (.list (.pair .str (.pair (.int .i64) (.pair (.int .u8) (.int .i64)))))), (.dat (.int .i64)), (.dat .bool), (.dat .bool), (.dat .bool)])], [(.tmp 0 false [(.dat .bool)])], fork_Valid⟩), (17, ⟨[(.tmp 0 true [(.dat (.list (.pair .str (.pair (.int .i64) (.pair (.int .u8) (.int .i64)))))), (.dat (.int .i64)), (.dat .bool), (.dat .bool), (.dat .bool)])], [(.tmp 0 false [(.dat (.int .i64))])], fork_Best⟩), (36, ⟨[(.tmp 0 true [(.dat (.list (.pair .str (.pair (.int .i64) (.pair (.int .u8) (.int .i64)))))), (.dat (.int .i64)), (.dat .bool), (.dat .bool), (.dat .bool)]), (.tmp 1 true [(.dat (.int .u8)), (.dat (.int .i64)), (.dat (.int .i64))])], [(.tmp 0 false [(.dat (.int .u8))])], fork_check⟩), (46, ⟨[(.tmp 0 true [(.dat .str), (.dat (.int .i64)), (.dat (.int .u8)), (.dat (.int .i64))])], [(.tmp 0 false [(.dat .bool)])], dialtoneref23_Open⟩), (24, ⟨[(.tmp 0 true [(.dat (.list (.pair .str (.pair (.int .i64) (.pair (.int .u8) (.int .i64)))))), (.dat (.int .i64)), (.dat .bool), (.dat .bool), (.dat .bool)])], [(.tmp 0 false [(.dat .bool)])], dialtoneref23_AnyOpen⟩), (60, ⟨[(.tmp 0 true [(.dat .str), (.dat (.int .i64)), (.dat (.int .u8)), (.dat (.int .i64))])], [(.tmp 0 false [(.dat .bool)])], dialtoneref23_Live⟩), (59, ⟨[(.tmp 0 true [(.dat .str), (.dat (.int .i64)), (.dat (.int .u8)), (.dat (.int .i64))])], [(.tmp 0 false [(.dat .bool)])], dialtoneref23_early⟩), (35, ⟨[(.tmp 0 true [(.dat (.list (.pair .str (.pair (.int .i64) (.pair (.int .u8) (.int .i64)))))), (.dat (.int .i64)), (.dat .bool), (.dat .bool), (.dat .bool)]), (.tmp 1 false [(.dat (.int .i64))])], [(.tmp 0 false [(.dat .bool)])], dialtoneref23_branch⟩), (16, ⟨[(.tmp 0 true [(.dat (.list (.pair .str (.pair (.int .i64) (.pair (.int .u8) (.int .i64)))))), (.dat (.int .i64)), (.dat .bool), (.dat .bool), (.dat .bool)])], [(.tmp 0 false [(.dat .bool)])], dialtoneref23_Valid⟩), (18, ⟨[(.tmp 0 true [(.dat (.list (.pair .str (.pair (.int .i64) (.pair (.int .u8) (.int .i64)))))), (.dat (.int .i64)), (.dat .bool), (.dat .bool), (.dat .bool)])], [(.tmp 0 false [(.dat (.int .i64))])], dialtoneref23_Best⟩), (45, ⟨[(.tmp 0 true [(.dat (.list (.pair .str (.pair (.int .i64) (.pair (.int .u8) (.int .i64)))))), (.dat (.int .i64)), (.dat .bool), (.dat .bool), (.dat .bool)])], [(.tmp 0 true [(.dat (.list (.pair .str (.pair (.int .i64) (.pair (.int .u8) (.int .i64)))))), (.dat (.int .i64)), (.dat .bool), (.dat .bool), (.dat .bool)]), (.tmp 1 false [(.dat (.list (.pair (.int .u8) (.pair (.int .i64) (.int .i64)))))])], dialtoneref23_stop⟩), (56, ⟨[(.tmp 0 true [(.dat (.list (.pair .str (.pair (.int .i64) (.pair (.int .u8) (.int .i64)))))), (.dat (.int .i64)), (.dat .bool), (.dat .bool), (.dat .bool)])], [(.tmp 0 false [(.dat (.int .i64))])], dialtoneref23_first⟩), (57, ⟨[(.tmp 0 true [(.dat (.list (.pair .str (.pair (.int .i64) (.pair (.int .u8) (.int .i64)))))), (.dat (.int .i64)), (.dat .bool), (.dat .bool), (.dat .bool)])], [(.tmp 0 true [(.dat (.list (.pair .str (.pair (.int .i64) (.pair (.int .u8) (.int .i64)))))), (.dat (.int .i64)), (.dat .bool), (.dat .bool), (.dat .bool)])], dialtoneref23_skip⟩), (30, ⟨[(.tmp 0 true [(.dat (.list (.pair .str (.pair (.int .i64) (.pair (.int .u8) (.int .i64)))))), (.dat (.int .i64)), (.dat .bool), (.dat .bool), (.dat .bool)])], [(.tmp 0 true [(.dat (.list (.pair .str (.pair (.int .i64) (.pair (.int .u8) (.int .i64)))))), (.dat (.int .i64)), (.dat .bool), (.dat .bool), (.dat .bool)]), (.tmp 1 false [(.dat (.list (.pair (.int .u8) (.pair (.int .i64) (.int .i64)))))])], dialtoneref23_goOn⟩), (41, ⟨[(.tmp 0 true [(.dat (.list (.pair .str (.pair (.int .i64) (.pair (.int .u8) (.int .i64)))))), (.dat (.int .i64)), (.dat .bool), (.dat .bool), (.dat .bool)]), (.tmp 1 true [(.dat (.int .u8)), (.dat (.int .i64)), (.dat (.int .i64))])], [(.tmp 0 false [(.dat (.int .u8))])], dialtoneref23_wrong⟩), (13, ⟨[(.tmp 0 true [(.dat (.list (.pair .str (.pair (.int .i64) (.pair (.int .u8) (.int .i64)))))), (.dat (.int .i64)), (.dat .bool), (.dat .bool), (.dat .bool)]), (.tmp 1 true [(.dat (.list (.pair .str (.pair (.int .i64) (.pair (.int .u8) (.int .i64)))))), (.dat (.int .i64)), (.dat .bool), (.dat .bool), (.dat .bool)])], [(.tmp 0 false [(.dat .bool)])], dialtoneref23_Same⟩), (14, ⟨[(.tmp 0 false [(.dat (.list (.pair (.int .u8) (.pair (.int .i64) (.int .i64)))))]), (.tmp 1 false [(.dat (.list (.pair (.int .u8) (.pair (.int .i64) (.int .i64)))))])], [(.tmp 0 false [(.dat .bool)])], dialtoneref23_SameActs⟩), (12, ⟨[(.tmp 0 false [(.dat (.list (.pair .str (.int .i64))))])], [(.tmp 0 true [(.dat (.list (.pair .str (.pair (.int .i64) (.pair (.int .u8) (.int .i64)))))), (.dat (.int .i64)), (.dat .bool), (.dat .bool), (.dat .bool)]), (.tmp 1 false [(.dat (.list (.pair (.int .u8) (.pair (.int .i64) (.int .i64)))))]), (.tmp 2 false [(.dat (.int .u8))])], dialtoneref23_New⟩), (21, ⟨[(.tmp 0 true [(.dat (.list (.pair .str (.pair (.int .i64) (.pair (.int .u8) (.int .i64)))))), (.dat (.int .i64)), (.dat .bool), (.dat .bool), (.dat .bool)]), (.tmp 1 true [(.dat (.int .u8)), (.dat (.int .i64)), (.dat (.int .i64))])], [(.tmp 0 true [(.dat (.list (.pair .str (.pair (.int .i64) (.pair (.int .u8) (.int .i64)))))), (.dat (.int .i64)), (.dat .bool), (.dat .bool), (.dat .bool)]), (.tmp 1 false [(.dat (.list (.pair (.int .u8) (.pair (.int .i64) (.int .i64)))))]), (.tmp 2 false [(.dat (.int .u8))])], dialtoneref23_Step⟩), (37, ⟨[.tmp 0 false [.dat (.list (.pair .str (.pair (.int .i64) (.pair (.int .u8) (.int .i64)))))]], [.tmp 0 false [.own 1 49 (.pair .str (.pair (.int .i64) (.pair (.int .u8) (.int .i64))))]], cloneG⟩), (62, ⟨[], riB, (fun _ => none)⟩), (19, ⟨[], riB, (fun _ => some true)⟩), (10, ⟨[], riB, (fun _ => some true)⟩), (20, ⟨[(.tmp 0 true [(.dat (.list (.pair .str (.pair (.int .i64) (.pair (.int .u8) (.int .i64)))))), (.dat (.int .i64)), (.dat .bool), (.dat .bool), (.dat .bool)]), (.tmp 1 true [(.dat (.int .u8)), (.dat (.int .i64)), (.dat (.int .i64))])], [(.tmp 0 true [(.dat (.list (.pair .str (.pair (.int .i64) (.pair (.int .u8) (.int .i64)))))), (.dat (.int .i64)), (.dat .bool), (.dat .bool), (.dat .bool)]), (.tmp 1 false [(.dat (.list (.pair (.int .u8) (.pair (.int .i64) (.int .i64)))))]), (.tmp 2 false [(.dat (.int .u8))])], fork_Step⟩), (11, ⟨[(.tmp 0 false [(.dat (.list (.pair .str (.int .i64))))])], [(.tmp 0 true [(.dat (.list (.pair .str (.pair (.int .i64) (.pair (.int .u8) (.int .i64)))))), (.dat (.int .i64)), (.dat .bool), (.dat .bool), (.dat .bool)]), (.tmp 1 false [(.dat (.list (.pair (.int .u8) (.pair (.int .i64) (.int .i64)))))]), (.tmp 2 false [(.dat (.int .u8))])], fork_New⟩), (23, ⟨[(.tmp 0 false [(.dat (.list (.pair (.int .u8) (.pair (.int .i64) (.int .i64)))))]), (.tmp 1 false [(.dat (.int .u8))])], [(.tmp 0 false [(.dat (.int .i64))])], dialtonelaw23_all⟩), (25, ⟨[(.tmp 0 false [(.dat (.list (.pair (.int .u8) (.pair (.int .i64) (.int .i64)))))]), (.tmp 1 false [(.dat (.int .u8))]), (.tmp 2 false [(.dat (.int .i64))])], [(.tmp 0 false [(.dat (.int .i64))])], dialtonelaw23_count⟩), (22, ⟨[(.tmp 0 false [(.dat (.list (.pair .str (.int .i64))))]), (.tmp 1 false [(.dat (.list (.pair (.int .u8) (.pair (.int .i64) (.int .i64)))))])], [(.tmp 0 true [(.dat (.list (.pair .str (.pair (.int .i64) (.pair (.int .u8) (.int .i64)))))), (.dat (.int .i64)), (.dat .bool), (.dat .bool), (.dat .bool)]), (.tmp 1 false [(.dat (.list (.pair (.int .u8) (.pair (.int .i64) (.int .i64)))))]), (.tmp 2 false [(.dat (.list (.pair (.int .u8) (.pair (.int .i64) (.int .i64)))))]), (.tmp 3 false [(.dat .bool)])], dialtonelaw23_run⟩), (6, ⟨[(.tmp 0 false [(.dat (.list (.pair .str (.int .i64))))]), (.tmp 1 false [(.dat (.list (.pair (.int .u8) (.pair (.int .i64) (.int .i64)))))])], [(.tmp 0 false [(.dat .bool)])], dialtonelaw23_ForkOne⟩)]
theorem cons7_ok : ConL Try.prog cons7 := ⟨con63, con50, con32, con34, con33, con31, con15, con17, con36, con46, con24, con60, con59, con35, con16, con18, con45, con56, con57, con30, con41, con13, con14, con12, con21, clone_con37, noSym, con_true (by kernel_rfl) live_o, con_true (by kernel_rfl) known_o, con20, con11, con23, con25, con22, con6, trivial⟩
theorem con7 : ConOk Try.prog 7 ⟨[(.tmp 0 false [(.dat (.list (.pair .str (.int .i64))))]), (.tmp 1 false [(.dat (.list (.pair (.int .u8) (.pair (.int .i64) (.int .i64)))))])], [(.tmp 0 false [(.dat .bool)])], dialtonelaw23_ForkStops⟩ :=
  tree_ok (plan := planOf plan7) (eg := egNo) KK tabL_ok (conOf_ok cons7_ok) Try.func7 (by kernel_rfl) (by kernel_rfl) 10000 (fun a r h => Eq.trans (show _ = dialtonelaw23_ForkStops a from by kernel_rfl) h)
def plan9 : List (Nat × PL) := [(68853957121, (.carry [])), (9241421688456087558, (.carry [.tmp 9 false [(.dat (.int .i64))]])), (2422583247098632616804865, (.carry [])), (43641380035629632351877897869532193882625, (.carry [.tmp 13 false [(.dat (.int .i64))], .tmp 12 false [(.dat .bool)], .tmp 11 false [(.dat .bool)]])), (5857446875166768303744347985464651485781292222470, (.carry [.tmp 13 false [(.dat (.int .i64))], .tmp 12 false [(.dat .bool)], .tmp 11 false [(.dat .bool)]])), (22344386578242371764161483709200483267904001, (.carry [.tmp 15 false [(.dat (.int .i64))]])), (2999012800085385371517106168557901560720090202376198, (.carry [.tmp 15 false [(.dat (.int .i64))]])), (105518382257374135732001021120643487217091752995846487303858946561, (.carry [.tmp 16 false [(.dat (.int .i64))]]))]
noncomputable def dialtonelaw23_ForkBest : ((List ((List UInt8) × Int)) × (List (Int × (Int × Int)))) → Option Bool := fun (a1, a2) =>
 bindO (dialtonelaw23_run (a1, a2)) fun ((x4, (x5, (x6, (x7, x8)))), (x9, (x10, x11))) =>
 bif (!x11) then
 some Bool.true
 else
 joinO (loopO (fun v13 =>
 bif (decide (v13 < (((List.length x9) : Nat) : Int))) then
 joinO (bif (decide (((0 : Int) ≤ v13) ∧ (v13 < (((List.length x9) : Nat) : Int)))) then 
 bindO x9[(Int.toNat v13)]? fun x14 =>
 bif (decide (x14.1 ≠ (6 : Int))) then
 some (Sum.inl ())
 else
 bif (decide (((0 : Int) ≤ v13) ∧ (v13 < (((List.length x9) : Nat) : Int)))) then 
 bindO x9[(Int.toNat v13)]? fun x15 =>
 bif x6 then
 bif x6 then
 bif (decide (x15.2.2 = (487 : Int))) then
 outO (outO (outO (some Bool.true)))
 else
 bif (!x6) then
 bif (decide (x15.2.2 = (480 : Int))) then
 outO (outO (outO (some Bool.true)))
 else
 outO (outO (outO (some Bool.false)))
 else
 outO (outO (outO (some Bool.false)))
 else
 bif (!x6) then
 bif (decide (x15.2.2 = (480 : Int))) then
 outO (outO (outO (some Bool.true)))
 else
 outO (outO (outO (some Bool.false)))
 else
 outO (outO (outO (some Bool.false)))
 else
 bif (decide ((((List.length x4) : Nat) : Int) = (0 : Int))) then
 bif x6 then
 bif (decide (x15.2.2 = (487 : Int))) then
 outO (outO (outO (some Bool.true)))
 else
 bif (!x6) then
 bif (decide (x15.2.2 = (480 : Int))) then
 outO (outO (outO (some Bool.true)))
 else
 outO (outO (outO (some Bool.false)))
 else
 outO (outO (outO (some Bool.false)))
 else
 bif (!x6) then
 bif (decide (x15.2.2 = (480 : Int))) then
 outO (outO (outO (some Bool.true)))
 else
 outO (outO (outO (some Bool.false)))
 else
 outO (outO (outO (some Bool.false)))
 else
 joinO (loopO (fun (v22, (v23, v24)) =>
 bif (decide (v22 < (((List.length x4) : Nat) : Int))) then
 bif (decide (((0 : Int) ≤ v22) ∧ (v22 < (((List.length x4) : Nat) : Int)))) then 
 bindO x4[(Int.toNat v22)]? fun x25 =>
 bif v24 then
 bif v23 then
 some (Sum.inl ((Go.IntKind.wrap .i64 (v22 + (1 : Int))), (Bool.true, Bool.true)))
 else
 some (Sum.inl ((Go.IntKind.wrap .i64 (v22 + (1 : Int))), ((decide (x25.2.2.2 ≥ (600 : Int))), Bool.true)))
 else
 bif (decide (x25.2.2.2 = x15.2.2)) then
 bif v23 then
 some (Sum.inl ((Go.IntKind.wrap .i64 (v22 + (1 : Int))), (Bool.true, Bool.true)))
 else
 some (Sum.inl ((Go.IntKind.wrap .i64 (v22 + (1 : Int))), ((decide (x25.2.2.2 ≥ (600 : Int))), Bool.true)))
 else
 bif (decide (x25.2.2.2 = (503 : Int))) then
 bif v23 then
 some (Sum.inl ((Go.IntKind.wrap .i64 (v22 + (1 : Int))), (Bool.true, (decide (x15.2.2 = (500 : Int))))))
 else
 some (Sum.inl ((Go.IntKind.wrap .i64 (v22 + (1 : Int))), ((decide (x25.2.2.2 ≥ (600 : Int))), (decide (x15.2.2 = (500 : Int))))))
 else
 bif v23 then
 some (Sum.inl ((Go.IntKind.wrap .i64 (v22 + (1 : Int))), (Bool.true, Bool.false)))
 else
 some (Sum.inl ((Go.IntKind.wrap .i64 (v22 + (1 : Int))), ((decide (x25.2.2.2 ≥ (600 : Int))), Bool.false)))
 else none
 else
 outO (some (Sum.inl (v22, (v23, v24))))) ((0 : Int), (Bool.false, Bool.false))) fun (v34, (v35, v36)) =>
 joinO (loopO (fun v37 =>
 bif (decide (v37 < (((List.length x4) : Nat) : Int))) then
 bif (decide (((0 : Int) ≤ v37) ∧ (v37 < (((List.length x4) : Nat) : Int)))) then 
 bindO x4[(Int.toNat v37)]? fun x38 =>
 joinO (bif (decide (x38.2.2.2 = (503 : Int))) then
 some (Sum.inl (500 : Int))
 else
 some (Sum.inl x38.2.2.2)) fun v39 =>
 bif (decide (v39 > (0 : Int))) then
 bif (decide (v39 < x15.2.2)) then
 bif (!v35) then
 outO (outO (outO (outO (outO (some Bool.false)))))
 else
 bif (decide (v39 ≥ (600 : Int))) then
 outO (outO (outO (outO (outO (some Bool.false)))))
 else
 some (Sum.inl (Go.IntKind.wrap .i64 (v37 + (1 : Int))))
 else
 some (Sum.inl (Go.IntKind.wrap .i64 (v37 + (1 : Int))))
 else
 some (Sum.inl (Go.IntKind.wrap .i64 (v37 + (1 : Int))))
 else none
 else
 outO (some (Sum.inl v37))) (0 : Int)) fun v43 =>
 bif v36 then
 bif ((decide (x15.2.2 ≥ (600 : Int))) == v35) then
 outO (outO (outO (some Bool.true)))
 else
 outO (outO (outO (some Bool.false)))
 else
 outO (outO (outO (some Bool.false)))
 else none
 else none) fun _ =>
 some (Sum.inl (Go.IntKind.wrap .i64 (v13 + (1 : Int))))
 else
 outO (some (Sum.inl ()))) (0 : Int)) fun _ =>
 some Bool.true
noncomputable def cons9 : List (Nat × CE) := [(63, ⟨[(.tmp 0 false [(.dat (.int .u8))])], [(.tmp 0 false [(.dat .bool)])], fork_live⟩), (50, ⟨[(.tmp 0 false [(.dat (.int .u8))])], [(.tmp 0 false [(.dat .bool)])], fork_open⟩), (32, ⟨[(.tmp 0 false [(.dat (.list (.pair .str (.pair (.int .i64) (.pair (.int .u8) (.int .i64))))))])], [(.tmp 0 false [(.dat .bool)])], fork_validOrder⟩), (34, ⟨[(.tmp 0 true [(.dat (.list (.pair .str (.pair (.int .i64) (.pair (.int .u8) (.int .i64)))))), (.dat (.int .i64)), (.dat .bool), (.dat .bool), (.dat .bool)]), (.tmp 1 true [(.dat (.int .i64)), (.dat (.int .i64)), (.dat (.int .i64)), (.dat (.int .i64)), (.dat .bool), (.dat .bool)])], [(.tmp 0 false [(.dat .bool)])], fork_validWinner⟩), (33, ⟨[(.tmp 0 false [(.dat (.list (.pair .str (.pair (.int .i64) (.pair (.int .u8) (.int .i64))))))])], [(.tmp 0 true [(.dat (.int .i64)), (.dat (.int .i64)), (.dat (.int .i64)), (.dat (.int .i64)), (.dat .bool), (.dat .bool)])], fork_count⟩), (31, ⟨[(.tmp 0 false [(.dat (.list (.pair .str (.pair (.int .i64) (.pair (.int .u8) (.int .i64))))))])], [(.tmp 0 false [(.dat .bool)])], fork_validBranches⟩), (15, ⟨[(.tmp 0 true [(.dat (.list (.pair .str (.pair (.int .i64) (.pair (.int .u8) (.int .i64)))))), (.dat (.int .i64)), (.dat .bool), (.dat .bool), (.dat .bool)])], [(.tmp 0 false [(.dat .bool)])], fork_Valid⟩), (17, ⟨[(.tmp 0 true [(.dat (.list (.pair .str (.pair (.int .i64) (.pair (.int .u8) (.int .i64)))))), (.dat (.int .i64)), (.dat .bool), (.dat .bool), (.dat .bool)])], [(.tmp 0 false [(.dat (.int .i64))])], fork_Best⟩), (36, ⟨[(.tmp 0 true [(.dat (.list (.pair .str (.pair (.int .i64) (.pair (.int .u8) (.int .i64)))))), (.dat (.int .i64)), (.dat .bool), (.dat .bool), (.dat .bool)]), (.tmp 1 true [(.dat (.int .u8)), (.dat (.int .i64)), (.dat (.int .i64))])], [(.tmp 0 false [(.dat (.int .u8))])], fork_check⟩), (46, ⟨[(.tmp 0 true [(.dat .str), (.dat (.int .i64)), (.dat (.int .u8)), (.dat (.int .i64))])], [(.tmp 0 false [(.dat .bool)])], dialtoneref23_Open⟩), (24, ⟨[(.tmp 0 true [(.dat (.list (.pair .str (.pair (.int .i64) (.pair (.int .u8) (.int .i64)))))), (.dat (.int .i64)), (.dat .bool), (.dat .bool), (.dat .bool)])], [(.tmp 0 false [(.dat .bool)])], dialtoneref23_AnyOpen⟩), (60, ⟨[(.tmp 0 true [(.dat .str), (.dat (.int .i64)), (.dat (.int .u8)), (.dat (.int .i64))])], [(.tmp 0 false [(.dat .bool)])], dialtoneref23_Live⟩), (59, ⟨[(.tmp 0 true [(.dat .str), (.dat (.int .i64)), (.dat (.int .u8)), (.dat (.int .i64))])], [(.tmp 0 false [(.dat .bool)])], dialtoneref23_early⟩), (35, ⟨[(.tmp 0 true [(.dat (.list (.pair .str (.pair (.int .i64) (.pair (.int .u8) (.int .i64)))))), (.dat (.int .i64)), (.dat .bool), (.dat .bool), (.dat .bool)]), (.tmp 1 false [(.dat (.int .i64))])], [(.tmp 0 false [(.dat .bool)])], dialtoneref23_branch⟩), (16, ⟨[(.tmp 0 true [(.dat (.list (.pair .str (.pair (.int .i64) (.pair (.int .u8) (.int .i64)))))), (.dat (.int .i64)), (.dat .bool), (.dat .bool), (.dat .bool)])], [(.tmp 0 false [(.dat .bool)])], dialtoneref23_Valid⟩), (18, ⟨[(.tmp 0 true [(.dat (.list (.pair .str (.pair (.int .i64) (.pair (.int .u8) (.int .i64)))))), (.dat (.int .i64)), (.dat .bool), (.dat .bool), (.dat .bool)])], [(.tmp 0 false [(.dat (.int .i64))])], dialtoneref23_Best⟩), (45, ⟨[(.tmp 0 true [(.dat (.list (.pair .str (.pair (.int .i64) (.pair (.int .u8) (.int .i64)))))), (.dat (.int .i64)), (.dat .bool), (.dat .bool), (.dat .bool)])], [(.tmp 0 true [(.dat (.list (.pair .str (.pair (.int .i64) (.pair (.int .u8) (.int .i64)))))), (.dat (.int .i64)), (.dat .bool), (.dat .bool), (.dat .bool)]), (.tmp 1 false [(.dat (.list (.pair (.int .u8) (.pair (.int .i64) (.int .i64)))))])], dialtoneref23_stop⟩), (56, ⟨[(.tmp 0 true [(.dat (.list (.pair .str (.pair (.int .i64) (.pair (.int .u8) (.int .i64)))))), (.dat (.int .i64)), (.dat .bool), (.dat .bool), (.dat .bool)])], [(.tmp 0 false [(.dat (.int .i64))])], dialtoneref23_first⟩), (57, ⟨[(.tmp 0 true [(.dat (.list (.pair .str (.pair (.int .i64) (.pair (.int .u8) (.int .i64)))))), (.dat (.int .i64)), (.dat .bool), (.dat .bool), (.dat .bool)])], [(.tmp 0 true [(.dat (.list (.pair .str (.pair (.int .i64) (.pair (.int .u8) (.int .i64)))))), (.dat (.int .i64)), (.dat .bool), (.dat .bool), (.dat .bool)])], dialtoneref23_skip⟩), (30, ⟨[(.tmp 0 true [(.dat (.list (.pair .str (.pair (.int .i64) (.pair (.int .u8) (.int .i64)))))), (.dat (.int .i64)), (.dat .bool), (.dat .bool), (.dat .bool)])], [(.tmp 0 true [(.dat (.list (.pair .str (.pair (.int .i64) (.pair (.int .u8) (.int .i64)))))), (.dat (.int .i64)), (.dat .bool), (.dat .bool), (.dat .bool)]), (.tmp 1 false [(.dat (.list (.pair (.int .u8) (.pair (.int .i64) (.int .i64)))))])], dialtoneref23_goOn⟩), (41, ⟨[(.tmp 0 true [(.dat (.list (.pair .str (.pair (.int .i64) (.pair (.int .u8) (.int .i64)))))), (.dat (.int .i64)), (.dat .bool), (.dat .bool), (.dat .bool)]), (.tmp 1 true [(.dat (.int .u8)), (.dat (.int .i64)), (.dat (.int .i64))])], [(.tmp 0 false [(.dat (.int .u8))])], dialtoneref23_wrong⟩), (13, ⟨[(.tmp 0 true [(.dat (.list (.pair .str (.pair (.int .i64) (.pair (.int .u8) (.int .i64)))))), (.dat (.int .i64)), (.dat .bool), (.dat .bool), (.dat .bool)]), (.tmp 1 true [(.dat (.list (.pair .str (.pair (.int .i64) (.pair (.int .u8) (.int .i64)))))), (.dat (.int .i64)), (.dat .bool), (.dat .bool), (.dat .bool)])], [(.tmp 0 false [(.dat .bool)])], dialtoneref23_Same⟩), (14, ⟨[(.tmp 0 false [(.dat (.list (.pair (.int .u8) (.pair (.int .i64) (.int .i64)))))]), (.tmp 1 false [(.dat (.list (.pair (.int .u8) (.pair (.int .i64) (.int .i64)))))])], [(.tmp 0 false [(.dat .bool)])], dialtoneref23_SameActs⟩), (12, ⟨[(.tmp 0 false [(.dat (.list (.pair .str (.int .i64))))])], [(.tmp 0 true [(.dat (.list (.pair .str (.pair (.int .i64) (.pair (.int .u8) (.int .i64)))))), (.dat (.int .i64)), (.dat .bool), (.dat .bool), (.dat .bool)]), (.tmp 1 false [(.dat (.list (.pair (.int .u8) (.pair (.int .i64) (.int .i64)))))]), (.tmp 2 false [(.dat (.int .u8))])], dialtoneref23_New⟩), (21, ⟨[(.tmp 0 true [(.dat (.list (.pair .str (.pair (.int .i64) (.pair (.int .u8) (.int .i64)))))), (.dat (.int .i64)), (.dat .bool), (.dat .bool), (.dat .bool)]), (.tmp 1 true [(.dat (.int .u8)), (.dat (.int .i64)), (.dat (.int .i64))])], [(.tmp 0 true [(.dat (.list (.pair .str (.pair (.int .i64) (.pair (.int .u8) (.int .i64)))))), (.dat (.int .i64)), (.dat .bool), (.dat .bool), (.dat .bool)]), (.tmp 1 false [(.dat (.list (.pair (.int .u8) (.pair (.int .i64) (.int .i64)))))]), (.tmp 2 false [(.dat (.int .u8))])], dialtoneref23_Step⟩), (37, ⟨[.tmp 0 false [.dat (.list (.pair .str (.pair (.int .i64) (.pair (.int .u8) (.int .i64)))))]], [.tmp 0 false [.own 1 49 (.pair .str (.pair (.int .i64) (.pair (.int .u8) (.int .i64))))]], cloneG⟩), (62, ⟨[], riB, (fun _ => none)⟩), (19, ⟨[], riB, (fun _ => some true)⟩), (10, ⟨[], riB, (fun _ => some true)⟩), (20, ⟨[(.tmp 0 true [(.dat (.list (.pair .str (.pair (.int .i64) (.pair (.int .u8) (.int .i64)))))), (.dat (.int .i64)), (.dat .bool), (.dat .bool), (.dat .bool)]), (.tmp 1 true [(.dat (.int .u8)), (.dat (.int .i64)), (.dat (.int .i64))])], [(.tmp 0 true [(.dat (.list (.pair .str (.pair (.int .i64) (.pair (.int .u8) (.int .i64)))))), (.dat (.int .i64)), (.dat .bool), (.dat .bool), (.dat .bool)]), (.tmp 1 false [(.dat (.list (.pair (.int .u8) (.pair (.int .i64) (.int .i64)))))]), (.tmp 2 false [(.dat (.int .u8))])], fork_Step⟩), (11, ⟨[(.tmp 0 false [(.dat (.list (.pair .str (.int .i64))))])], [(.tmp 0 true [(.dat (.list (.pair .str (.pair (.int .i64) (.pair (.int .u8) (.int .i64)))))), (.dat (.int .i64)), (.dat .bool), (.dat .bool), (.dat .bool)]), (.tmp 1 false [(.dat (.list (.pair (.int .u8) (.pair (.int .i64) (.int .i64)))))]), (.tmp 2 false [(.dat (.int .u8))])], fork_New⟩), (23, ⟨[(.tmp 0 false [(.dat (.list (.pair (.int .u8) (.pair (.int .i64) (.int .i64)))))]), (.tmp 1 false [(.dat (.int .u8))])], [(.tmp 0 false [(.dat (.int .i64))])], dialtonelaw23_all⟩), (25, ⟨[(.tmp 0 false [(.dat (.list (.pair (.int .u8) (.pair (.int .i64) (.int .i64)))))]), (.tmp 1 false [(.dat (.int .u8))]), (.tmp 2 false [(.dat (.int .i64))])], [(.tmp 0 false [(.dat (.int .i64))])], dialtonelaw23_count⟩), (22, ⟨[(.tmp 0 false [(.dat (.list (.pair .str (.int .i64))))]), (.tmp 1 false [(.dat (.list (.pair (.int .u8) (.pair (.int .i64) (.int .i64)))))])], [(.tmp 0 true [(.dat (.list (.pair .str (.pair (.int .i64) (.pair (.int .u8) (.int .i64)))))), (.dat (.int .i64)), (.dat .bool), (.dat .bool), (.dat .bool)]), (.tmp 1 false [(.dat (.list (.pair (.int .u8) (.pair (.int .i64) (.int .i64)))))]), (.tmp 2 false [(.dat (.list (.pair (.int .u8) (.pair (.int .i64) (.int .i64)))))]), (.tmp 3 false [(.dat .bool)])], dialtonelaw23_run⟩), (6, ⟨[(.tmp 0 false [(.dat (.list (.pair .str (.int .i64))))]), (.tmp 1 false [(.dat (.list (.pair (.int .u8) (.pair (.int .i64) (.int .i64)))))])], [(.tmp 0 false [(.dat .bool)])], dialtonelaw23_ForkOne⟩), (7, ⟨[(.tmp 0 false [(.dat (.list (.pair .str (.int .i64))))]), (.tmp 1 false [(.dat (.list (.pair (.int .u8) (.pair (.int .i64) (.int .i64)))))])], [(.tmp 0 false [(.dat .bool)])], dialtonelaw23_ForkStops⟩)]
theorem cons9_ok : ConL Try.prog cons9 := ⟨con63, con50, con32, con34, con33, con31, con15, con17, con36, con46, con24, con60, con59, con35, con16, con18, con45, con56, con57, con30, con41, con13, con14, con12, con21, clone_con37, noSym, con_true (by kernel_rfl) live_o, con_true (by kernel_rfl) known_o, con20, con11, con23, con25, con22, con6, con7, trivial⟩
theorem con9 : ConOk Try.prog 9 ⟨[(.tmp 0 false [(.dat (.list (.pair .str (.int .i64))))]), (.tmp 1 false [(.dat (.list (.pair (.int .u8) (.pair (.int .i64) (.int .i64)))))])], [(.tmp 0 false [(.dat .bool)])], dialtonelaw23_ForkBest⟩ :=
  tree_ok (plan := planOf plan9) (eg := egNo) KK tabL_ok (conOf_ok cons9_ok) Try.func9 (by kernel_rfl) (by kernel_rfl) 10000 (fun a r h => Eq.trans (show _ = dialtonelaw23_ForkBest a from by kernel_rfl) h)
end Go.Proofs.Ytheicchelhjcjaa
