import Derived.Test.YtkpijdndakljjaaZrp
import Derived.Test.YtkpijdndakljjaaFp
import Derived.Test.YtkpijdndakljjaaXBp
import Derived.Test.YtkpijdndakljjaaXAp
import Derived.OrdersIn
import Derived.ControlIn
import Derived.RangeFuncLeaves
import Derived.RangeFuncCalls
import Derived.RangeFuncRecord
import Derived.RangeFuncKeeps
import Derived.Shelf.Abstract
import Derived.WalkKit
import Derived.OwnWalkIn
import Derived.TacticsInMore
import Derived.LoopNIn
import Derived.LoopIn
import Derived.Test.YtkpijdndakljjaaProg
import Derived.RangeFuncIn
set_option linter.unusedSimpArgs false
set_option linter.unusedVariables false
set_option maxRecDepth 1000000
set_option maxHeartbeats 0
namespace Go.Proofs.Ytkpijdndakljjaa
open Go.RowKit
def planj102:List (Nat×PL):=[(134480385,(.carry [.tmp 3 false [(.dat (.int .u32))]])),(18049651601311750,(.carry [.tmp 9 false [(.dat (.int .i64))],.tmp 3 false [(.dat (.int .u32))]])),(2422583229119624904966657,(.carry [.tmp 3 false [(.dat (.int .u32))]])),(43641379711748622625774587972117695039494,(.carry [.tmp 17 false [(.dat (.int .i64))],.tmp 3 false [(.dat (.int .u32))]]))]
noncomputable def journal_Check:(List Int)→Option Int:=fun a1 =>
 joinO (loopO (fun (v2,v3) =>
 bif (decide (v2<(((List.length a1):Nat):Int))) then
 joinO (bif (decide (((0:Int)≤v2)∧(v2<(((List.length a1):Nat):Int)))) then
 bindO a1[(Int.toNat v2)]? fun x4 =>
 loopO (fun (v7,v8) =>
 bif (decide (v7<(8:Int))) then
 bindO (some (Go.IntKind.wrap .u32 (Int.tdiv v8 (2:Int)))) fun x10 =>
 bif (decide ((Go.IntKind.wrap .u32 (((BitVec.toNat ((BitVec.ofInt 32 v8) &&& (BitVec.ofInt 32 (1:Int)))):Nat):Int))=(1:Int))) then
 some (Sum.inl ((Go.IntKind.wrap .i64 (v7+(1:Int))),(Go.IntKind.wrap .u32 (((BitVec.toNat ((BitVec.ofInt 32 x10) ^^^ (BitVec.ofInt 32 (3988292384:Int)))):Nat):Int))))
 else
 some (Sum.inl ((Go.IntKind.wrap .i64 (v7+(1:Int))),x10))
 else
 outO (some (Sum.inl v8))) ((0:Int),(Go.IntKind.wrap .u32 (((BitVec.toNat ((BitVec.ofInt 32 v3) ^^^ (BitVec.ofInt 32 (Go.IntKind.wrap .u32 x4)))):Nat):Int)))
 else none) fun v14 =>
 some (Sum.inl ((Go.IntKind.wrap .i64 (v2+(1:Int))),v14))
 else
 outO (some (Sum.inl v3))) ((0:Int),(4294967295:Int))) fun v16 =>
 some (Go.IntKind.wrap .u32 (((BitVec.toNat ((BitVec.ofInt 32 (4294967295:Int)) ^^^ (BitVec.ofInt 32 v16))):Nat):Int))
noncomputable def consj102:List (Nat×CE):=[]
theorem consj102_ok:ConL Try.prog consj102:=trivial
theorem conj102:ConOk Try.prog 102 ⟨[(.tmp 0 false [(.dat (.list (.int .u8)))])],[(.tmp 0 false [(.dat (.int .u32))])],journal_Check⟩ :=
 tree_ok (plan:=planOf planj102) (eg:=egNo) KK tabL_ok (conOf_ok consj102_ok) Try.func102 (by kernel_rfl) (by kernel_rfl) 10000 (fun a r h=>Eq.trans (show _=journal_Check a from by kernel_rfl) h)
def planj129:List (Nat×PL):=[(134480385,(.carry [.tmp 3 false [(.dat (.int .u32))]])),(18049651601311750,(.carry [.tmp 4 false [(.dat (.int .i64))],.tmp 3 false [(.dat (.int .u32))]])),(4731607869374267392513,(.carry [.tmp 3 false [(.dat (.int .u32))]])),(166478651854509821417867418488014854,(.carry [.tmp 5 false [(.dat (.int .i64))],.tmp 3 false [(.dat (.int .u32))]]))]
noncomputable def dialtoneref20_Check:(List Int)→Option Int:=fun a1 =>
 joinO (loopO (fun (v2,v3) =>
 bif (decide (v2<(((List.length a1):Nat):Int))) then
 joinO (bif (decide (((0:Int)≤v2)∧(v2<(((List.length a1):Nat):Int)))) then
 bindO a1[(Int.toNat v2)]? fun x4 =>
 loopO (fun (v7,v8) =>
 bif (decide (v7<(8:Int))) then
 bif (decide ((Int.tmod v8 (2:Int))=(1:Int))) then
 some (Sum.inl ((Go.IntKind.wrap .i64 (v7+(1:Int))),(Go.IntKind.wrap .u32 (((BitVec.toNat ((BitVec.ofInt 32 (Go.IntKind.wrap .u32 (Int.tdiv v8 (2:Int)))) ^^^ (BitVec.ofInt 32 (3988292384:Int)))):Nat):Int))))
 else
 some (Sum.inl ((Go.IntKind.wrap .i64 (v7+(1:Int))),(Go.IntKind.wrap .u32 (Int.tdiv v8 (2:Int)))))
 else
 outO (some (Sum.inl v8))) ((0:Int),(Go.IntKind.wrap .u32 (((BitVec.toNat ((BitVec.ofInt 32 v3) ^^^ (BitVec.ofInt 32 (Go.IntKind.wrap .u32 x4)))):Nat):Int)))
 else none) fun v15 =>
 some (Sum.inl ((Go.IntKind.wrap .i64 (v2+(1:Int))),v15))
 else
 outO (some (Sum.inl v3))) ((0:Int),(4294967295:Int))) fun v17 =>
 some (Go.IntKind.wrap .u32 (((BitVec.toNat ((BitVec.ofInt 32 v17) ^^^ (BitVec.ofInt 32 (4294967295:Int)))):Nat):Int))
noncomputable def consj129:List (Nat×CE):=(102,⟨[(.tmp 0 false [(.dat (.list (.int .u8)))])],[(.tmp 0 false [(.dat (.int .u32))])],journal_Check⟩)::consj102
theorem consj129_ok:ConL Try.prog consj129:=⟨conj102,consj102_ok⟩
theorem conj129:ConOk Try.prog 129 ⟨[(.tmp 0 false [(.dat (.list (.int .u8)))])],[(.tmp 0 false [(.dat (.int .u32))])],dialtoneref20_Check⟩ :=
 tree_ok (plan:=planOf planj129) (eg:=egNo) KK tabL_ok (conOf_ok consj129_ok) Try.func129 (by kernel_rfl) (by kernel_rfl) 10000 (fun a r h=>Eq.trans (show _=dialtoneref20_Check a from by kernel_rfl) h)
def planj128:List (Nat×PL):=[(134480385,(.carry [.drop 0,.tmp 5 false [(.dat (.list (.int .u8)))]])),(18049651601311750,(.carry [.tmp 6 false [(.dat (.int .i64))],.tmp 0 false [(.dat (.int .i64))],.tmp 5 false [(.dat (.list (.int .u8)))]]))]
noncomputable def dialtoneref20_number:(Int×Int)→Option (List Int):=fun (a1,a2) =>
 joinO (loopO (fun (v3,(v4,v5)) =>
 bif (decide (v3<a2)) then
 bindO (some (Int.tmod v4 (256:Int))) fun x6 =>
 bif (decide ((1=0)∨((List.length v5)≠0))) then
 bif (decide (((List.length (((Go.IntKind.wrap .u8 x6)::([]:List Int))++v5))*1)≤140737488355328)) then
 bindO (some (((Go.IntKind.wrap .u8 x6)::([]:List Int))++v5)) fun x8 =>
 bif (decide ((List.length x8)≤(List.length x8))) then
 some (Sum.inl ((Go.IntKind.wrap .i64 (v3+(1:Int))),((Go.IntKind.wrap .i64 (Int.tdiv v4 (256:Int))),(List.take (List.length x8) x8))))
 else none
 else none
 else
 some (Sum.inl ((Go.IntKind.wrap .i64 (v3+(1:Int))),((Go.IntKind.wrap .i64 (Int.tdiv v4 (256:Int))),((Go.IntKind.wrap .u8 x6)::([]:List Int)))))
 else
 outO (some (Sum.inl v5))) ((0:Int),(a1,([]:List Int)))) fun v13 =>
 some v13
noncomputable def consj128:List (Nat×CE):=(129,⟨[(.tmp 0 false [(.dat (.list (.int .u8)))])],[(.tmp 0 false [(.dat (.int .u32))])],dialtoneref20_Check⟩)::consj129
theorem consj128_ok:ConL Try.prog consj128:=⟨conj129,consj129_ok⟩
theorem conj128:ConOk Try.prog 128 ⟨[(.tmp 0 false [(.dat (.int .i64))]),(.tmp 1 false [(.dat (.int .i64))])],[(.tmp 0 false [(.dat (.list (.int .u8)))])],dialtoneref20_number⟩ :=
 tree_ok (plan:=planOf planj128) (eg:=egAll) KK tabL_ok (conOf_ok consj128_ok) Try.func128 (by kernel_rfl) (by kernel_rfl) 10000 (fun a r h=>Eq.trans (show _=dialtoneref20_number a from by kernel_rfl) h)
def planj73:List (Nat×PL):=[(4731607904492334612511,(.carry [.tmp 0 false [(.own 10000005 5 (.int .u8))]])),(1240362622515238564662084097,(.carry [.tmp 0 false [(.own 10000004 5 (.int .u8))]])),(166478653090116965526926015110318086,(.carry [.tmp 10 false [(.dat (.int .i64))],.tmp 0 false [(.own 10000003 5 (.int .u8))]])),(22344386578255678367278332572200562860491265,(.carry [.tmp 0 false [(.own 10000002 5 (.int .u8))],.dead 10000003])),(786173211466051447306281901482090301346629135624380352518,(.carry [.tmp 7 false [(.dat (.int .i64))],.tmp 0 false [(.own 10000001 5 (.int .u8))],.dead 10000003])),(18049651735527445,(.carry [.tmp 0 false [(.own 10000006 5 (.int .u8))],.dead 22])),(4731607904558106542593,(.carry [.tmp 0 false [(.own 10000010 5 (.int .u8))],.dead 22])),(635065662736629904128633735174,(.carry [.tmp 10 false [(.dat (.int .i64))],.tmp 0 false [(.own 10000009 5 (.int .u8))],.dead 22])),(85237070383324728109003039679208227329,(.carry [.tmp 0 false [(.own 10000008 5 (.int .u8))],.dead 22,.dead 10000009])),(2999012800128859266877521744582980956552618278389766,(.carry [.tmp 7 false [(.dat (.int .i64))],.tmp 0 false [(.own 10000007 5 (.int .u8))],.dead 22,.dead 10000009]))]
noncomputable def journal_Encode:(Int×(Int×(List Int)))→Option ((List Int)×Int):=fun (a1,(a2,a3)) =>
 bif (decide (a1<(0:Int))) then
 some (([]:List Int),(3:Int))
 else
 bif (decide (a1 > (1048575:Int))) then
 some (([]:List Int),(3:Int))
 else
 bif (decide ((((List.length a3):Nat):Int) > (4096:Int))) then
 some (([]:List Int),(4:Int))
 else
 joinO (joinO (loopO (fun (v9,v10) =>
 bif (decide (v9<(5:Int))) then
 joinO (bif (decide (((0:Int)≤v9)∧(v9<(5:Int)))) then
 bindO (((167:Int),(1:Int))::(((Go.IntKind.wrap .u32 a2),(1:Int))::(((Go.IntKind.wrap .u32 a1),(4:Int))::(((Go.IntKind.wrap .u32 (((List.length a3):Nat):Int)),(2:Int))::(((Go.IntKind.wrap .u32 (Go.IntKind.wrap .i64 ((65535:Int)-(((List.length a3):Nat):Int)))),(2:Int))::([]:List (Int×Int)))))))[(Int.toNat v9)]? fun x11 =>
 bif (decide ((List.length v10)≤(List.length v10))) then
 loopO (fun (v13,v14) =>
 bif (decide (v13≥(0:Int))) then
 bindO (some (Go.IntKind.wrap .i64 ((8:Int)*v13))) fun x15 =>
 bif (decide ((0:Int)≤x15)) then
 bindO (some (Int.fdiv x11.1 ((2:Int) ^ (Min.min (Int.toNat x15) 32)))) fun x16 =>
 bif (decide ((List.length v14)≤(List.length v14))) then
 bif (decide (((List.length ((List.take (List.length v14) v14)++((Go.IntKind.wrap .u8 x16)::([]:List Int))))*1)≤140737488355328)) then
 bindO (some ((List.take (List.length v14) v14)++((Go.IntKind.wrap .u8 x16)::([]:List Int)))) fun x18 =>
 bif (decide ((List.length x18)≤(List.length x18))) then
 some (Sum.inl ((Go.IntKind.wrap .i64 (v13-(1:Int))),(List.take (List.length x18) x18)))
 else none
 else none
 else none
 else none
 else
 outO (bif (decide ((List.length v14)≤(List.length v14))) then
 some (Sum.inl (List.take (List.length v14) v14))
 else none)) ((Go.IntKind.wrap .i64 (x11.2-(1:Int))),(List.take (List.length v10) v10))
 else none
 else none) fun v20 =>
 bif (decide ((List.length v20)≤(List.length v20))) then
 some (Sum.inl ((Go.IntKind.wrap .i64 (v9+(1:Int))),(List.take (List.length v20) v20)))
 else none
 else
 outO (bif (decide ((List.length v10)≤(List.length v10))) then
 some (Sum.inl (List.take (List.length v10) v10))
 else none)) ((0:Int),([]:List Int))) fun v22 =>
 bif (decide ((List.length v22)≤(List.length v22))) then
 some (Sum.inl (List.take (List.length v22) v22))
 else none) fun v23 =>
 bif (decide ((List.length v23)≤(List.length v23))) then
 bif (decide (((List.length ((List.take (List.length v23) v23)++a3))*1)≤140737488355328)) then
 bindO (some ((List.take (List.length v23) v23)++a3)) fun x24 =>
 bif (decide ((List.length x24)≤(List.length x24))) then
 bindO (journal_Check (List.take (List.length x24) x24)) fun x25 =>
 joinO (joinO (bif (decide ((List.length x24)≤(List.length x24))) then
 loopO (fun (v26,v27) =>
 bif (decide (v26<(1:Int))) then
 joinO (bif (decide (((0:Int)≤v26)∧(v26<(1:Int)))) then
 bindO ((x25,(4:Int))::([]:List (Int×Int)))[(Int.toNat v26)]? fun x28 =>
 bif (decide ((List.length v27)≤(List.length v27))) then
 loopO (fun (v30,v31) =>
 bif (decide (v30≥(0:Int))) then
 bindO (some (Go.IntKind.wrap .i64 ((8:Int)*v30))) fun x32 =>
 bif (decide ((0:Int)≤x32)) then
 bindO (some (Int.fdiv x28.1 ((2:Int) ^ (Min.min (Int.toNat x32) 32)))) fun x33 =>
 bif (decide ((List.length v31)≤(List.length v31))) then
 bif (decide (((List.length ((List.take (List.length v31) v31)++((Go.IntKind.wrap .u8 x33)::([]:List Int))))*1)≤140737488355328)) then
 bindO (some ((List.take (List.length v31) v31)++((Go.IntKind.wrap .u8 x33)::([]:List Int)))) fun x35 =>
 bif (decide ((List.length x35)≤(List.length x35))) then
 some (Sum.inl ((Go.IntKind.wrap .i64 (v30-(1:Int))),(List.take (List.length x35) x35)))
 else none
 else none
 else none
 else none
 else
 outO (bif (decide ((List.length v31)≤(List.length v31))) then
 some (Sum.inl (List.take (List.length v31) v31))
 else none)) ((Go.IntKind.wrap .i64 (x28.2-(1:Int))),(List.take (List.length v27) v27))
 else none
 else none) fun v37 =>
 bif (decide ((List.length v37)≤(List.length v37))) then
 some (Sum.inl ((Go.IntKind.wrap .i64 (v26+(1:Int))),(List.take (List.length v37) v37)))
 else none
 else
 outO (bif (decide ((List.length v27)≤(List.length v27))) then
 some (Sum.inl (List.take (List.length v27) v27))
 else none)) ((0:Int),(List.take (List.length x24) x24))
 else none) fun v39 =>
 bif (decide ((List.length v39)≤(List.length v39))) then
 some (Sum.inl (List.take (List.length v39) v39))
 else none) fun v40 =>
 bif (decide ((List.length v40)≤(List.length v40))) then
 some ((List.take (List.length v40) v40),(0:Int))
 else none
 else none
 else none
 else none
noncomputable def consj73:List (Nat×CE):=(128,⟨[(.tmp 0 false [(.dat (.int .i64))]),(.tmp 1 false [(.dat (.int .i64))])],[(.tmp 0 false [(.dat (.list (.int .u8)))])],dialtoneref20_number⟩)::consj128
theorem consj73_ok:ConL Try.prog consj73:=⟨conj128,consj128_ok⟩
theorem conj73:ConOk Try.prog 73 ⟨[(.tmp 0 false [(.dat (.int .i64))]),(.tmp 1 true [(.dat (.int .u8)),(.dat (.list (.int .u8)))])],[(.tmp 0 false [(.dat (.list (.int .u8)))]),(.tmp 1 false [(.dat (.int .u8))])],journal_Encode⟩ :=
 tree_ok (plan:=planOf planj73) (eg:=egNo) KK tabL_ok (conOf_ok consj73_ok) Try.func73 (by kernel_rfl) (by kernel_rfl) 10000 (fun a r h=>Eq.trans (show _=journal_Encode a from by kernel_rfl) h)
def planj113:List (Nat×PL):=[]
noncomputable def dialtoneref20_Encode:(Int×(Int×(List Int)))→Option ((List Int)×Int):=fun (a1,(a2,a3)) =>
 bif (decide (a1<(0:Int))) then
 some (([]:List Int),(3:Int))
 else
 bif (decide (a1≥(1048576:Int))) then
 some (([]:List Int),(3:Int))
 else
 bif (decide ((((List.length a3):Nat):Int) > (4096:Int))) then
 some (([]:List Int),(4:Int))
 else
 bindO (dialtoneref20_number (a1,(4:Int))) fun x4 =>
 bif (decide ((2=0)∨((List.length x4)≠0))) then
 bif (decide (((List.length (((167:Int)::(a2::([]:List Int)))++x4))*1)≤140737488355328)) then
 bindO (some (((167:Int)::(a2::([]:List Int)))++x4)) fun x5 =>
 bindO (dialtoneref20_number ((((List.length a3):Nat):Int),(2:Int))) fun x6 =>
 bif (decide ((List.length x5)≤(List.length x5))) then
 bif (decide (((List.length ((List.take (List.length x5) x5)++x6))*1)≤140737488355328)) then
 bindO (some ((List.take (List.length x5) x5)++x6)) fun x7 =>
 bindO (dialtoneref20_number ((Go.IntKind.wrap .i64 ((65535:Int)-(((List.length a3):Nat):Int))),(2:Int))) fun x9 =>
 bif (decide ((List.length x7)≤(List.length x7))) then
 bif (decide (((List.length ((List.take (List.length x7) x7)++x9))*1)≤140737488355328)) then
 bindO (some ((List.take (List.length x7) x7)++x9)) fun x10 =>
 bif (decide ((List.length x10)≤(List.length x10))) then
 bif (decide (((List.length ((List.take (List.length x10) x10)++a3))*1)≤140737488355328)) then
 bindO (some ((List.take (List.length x10) x10)++a3)) fun x11 =>
 bif (decide ((List.length x11)≤(List.length x11))) then
 bindO (dialtoneref20_Check (List.take (List.length x11) x11)) fun x12 =>
 bindO (dialtoneref20_number ((Go.IntKind.wrap .i64 x12),(4:Int))) fun x14 =>
 bif (decide ((List.length x11)≤(List.length x11))) then
 bif (decide (((List.length ((List.take (List.length x11) x11)++x14))*1)≤140737488355328)) then
 bindO (some ((List.take (List.length x11) x11)++x14)) fun x15 =>
 bif (decide ((List.length x15)≤(List.length x15))) then
 some ((List.take (List.length x15) x15),(0:Int))
 else none
 else none
 else none
 else none
 else none
 else none
 else none
 else none
 else none
 else none
 else none
 else none
noncomputable def consj113:List (Nat×CE):=(73,⟨[(.tmp 0 false [(.dat (.int .i64))]),(.tmp 1 true [(.dat (.int .u8)),(.dat (.list (.int .u8)))])],[(.tmp 0 false [(.dat (.list (.int .u8)))]),(.tmp 1 false [(.dat (.int .u8))])],journal_Encode⟩)::consj73
theorem consj113_ok:ConL Try.prog consj113:=⟨conj73,consj73_ok⟩
theorem conj113:ConOk Try.prog 113 ⟨[(.tmp 0 false [(.dat (.int .i64))]),(.tmp 1 true [(.dat (.int .u8)),(.dat (.list (.int .u8)))])],[(.tmp 0 false [(.dat (.list (.int .u8)))]),(.tmp 1 false [(.dat (.int .u8))])],dialtoneref20_Encode⟩ :=
 tree_ok (plan:=planOf planj113) (eg:=egNo) KK tabL_ok (conOf_ok consj113_ok) Try.func113 (by kernel_rfl) (by kernel_rfl) 10000 (fun a r h=>Eq.trans (show _=dialtoneref20_Encode a from by kernel_rfl) h)
def planj74:List (Nat×PL):=[]
noncomputable def journal_joined:((List Int)×(List Int))→Option (List Int):=fun (a1,a2) =>
 bindO (some (Go.IntKind.wrap .i64 ((((List.length a1):Nat):Int)+(((List.length a2):Nat):Int)))) fun x3 =>
 bif (decide (((0:Int)≤x3)∧((x3≤x3)∧(((x3*(1:Int))≤(140737488355328:Int))∧(x3≤(9223372036854775807:Int)))))) then
 bif (decide ((Int.toNat x3)≤(List.length (List.replicate (Int.toNat x3) (0:Int))))) then
 bif (decide (((0:Int)≤(((List.length a1):Nat):Int))∧((((List.length a1):Nat):Int)≤(((Int.toNat x3):Nat):Int)))) then
 bif (decide (((Int.toNat (((List.length a1):Nat):Int))+((Int.toNat x3)-(Int.toNat (((List.length a1):Nat):Int))))≤(List.length (layL (List.replicate (Int.toNat x3) (0:Int)) 0 (List.take (Int.toNat x3) a1))))) then
 bif (decide ((Int.toNat x3)≤(List.length (layL (layL (List.replicate (Int.toNat x3) (0:Int)) 0 (List.take (Int.toNat x3) a1)) (Int.toNat (((List.length a1):Nat):Int)) (List.take ((Int.toNat x3)-(Int.toNat (((List.length a1):Nat):Int))) a2))))) then
 some (List.take (Int.toNat x3) (layL (layL (List.replicate (Int.toNat x3) (0:Int)) 0 (List.take (Int.toNat x3) a1)) (Int.toNat (((List.length a1):Nat):Int)) (List.take ((Int.toNat x3)-(Int.toNat (((List.length a1):Nat):Int))) a2)))
 else none
 else none
 else none
 else none
 else none
noncomputable def consj74:List (Nat×CE):=(113,⟨[(.tmp 0 false [(.dat (.int .i64))]),(.tmp 1 true [(.dat (.int .u8)),(.dat (.list (.int .u8)))])],[(.tmp 0 false [(.dat (.list (.int .u8)))]),(.tmp 1 false [(.dat (.int .u8))])],dialtoneref20_Encode⟩)::consj113
theorem consj74_ok:ConL Try.prog consj74:=⟨conj113,consj113_ok⟩
theorem conj74:ConOk Try.prog 74 ⟨[(.tmp 0 false [(.dat (.list (.int .u8)))]),(.tmp 1 false [(.dat (.list (.int .u8)))])],[(.tmp 0 false [(.dat (.list (.int .u8)))])],journal_joined⟩ :=
 tree_ok (plan:=planOf planj74) (eg:=egNo) KK tabL_ok (conOf_ok consj74_ok) Try.func74 (by kernel_rfl) (by kernel_rfl) 10000 (fun a r h=>Eq.trans (show _=journal_joined a from by kernel_rfl) h)
def planj91:List (Nat×PL):=[]
noncomputable def dialtoneref20_copied:(List Int)→Option (List Int):=fun a1 =>
 bif (decide (((List.length a1)*1)≤140737488355328)) then
 bif (decide ((List.length a1)≤(List.length a1))) then
 some (List.take (List.length a1) a1)
 else none
 else none
noncomputable def consj91:List (Nat×CE):=(74,⟨[(.tmp 0 false [(.dat (.list (.int .u8)))]),(.tmp 1 false [(.dat (.list (.int .u8)))])],[(.tmp 0 false [(.dat (.list (.int .u8)))])],journal_joined⟩)::consj74
theorem consj91_ok:ConL Try.prog consj91:=⟨conj74,consj74_ok⟩
theorem conj91:ConOk Try.prog 91 ⟨[(.tmp 0 false [(.dat (.list (.int .u8)))])],[(.tmp 0 false [(.dat (.list (.int .u8)))])],dialtoneref20_copied⟩ :=
 tree_ok (plan:=planOf planj91) (eg:=egNo) KK tabL_ok (conOf_ok consj91_ok) Try.func91 (by kernel_rfl) (by kernel_rfl) 10000 (fun a r h=>Eq.trans (show _=dialtoneref20_copied a from by kernel_rfl) h)
def planj54:List (Nat×PL):=[]
noncomputable def journal_Valid:((List Int)×(Int×Int))→Option Bool:=fun (a1,(a2,a3)) =>
 bif (decide (a2≥(0:Int))) then
 bif (decide (a2≤(((List.length a1):Nat):Int))) then
 bif (decide (a3≥(0:Int))) then
 some (decide (a3≤(1048576:Int)))
 else
 some Bool.false
 else
 some Bool.false
 else
 some Bool.false
noncomputable def consj54:List (Nat×CE):=(91,⟨[(.tmp 0 false [(.dat (.list (.int .u8)))])],[(.tmp 0 false [(.dat (.list (.int .u8)))])],dialtoneref20_copied⟩)::consj91
theorem consj54_ok:ConL Try.prog consj54:=⟨conj91,consj91_ok⟩
theorem conj54:ConOk Try.prog 54 ⟨[(.tmp 0 true [(.dat (.list (.int .u8))),(.dat (.int .i64)),(.dat (.int .i64))])],[(.tmp 0 false [(.dat .bool)])],journal_Valid⟩ :=
 tree_ok (plan:=planOf planj54) (eg:=egNo) KK tabL_ok (conOf_ok consj54_ok) Try.func54 (by kernel_rfl) (by kernel_rfl) 10000 (fun a r h=>Eq.trans (show _=journal_Valid a from by kernel_rfl) h)
def planj56:List (Nat×PL):=[]
noncomputable def dialtoneref20_Valid:((List Int)×(Int×Int))→Option Bool:=fun (a1,(a2,a3)) =>
 bif (decide (a2≥(0:Int))) then
 bif (decide (a2≤(((List.length a1):Nat):Int))) then
 bif (decide (a3≥(0:Int))) then
 some (decide (a3≤(1048576:Int)))
 else
 some Bool.false
 else
 some Bool.false
 else
 some Bool.false
noncomputable def consj56:List (Nat×CE):=(54,⟨[(.tmp 0 true [(.dat (.list (.int .u8))),(.dat (.int .i64)),(.dat (.int .i64))])],[(.tmp 0 false [(.dat .bool)])],journal_Valid⟩)::consj54
theorem consj56_ok:ConL Try.prog consj56:=⟨conj54,consj54_ok⟩
theorem conj56:ConOk Try.prog 56 ⟨[(.tmp 0 true [(.dat (.list (.int .u8))),(.dat (.int .i64)),(.dat (.int .i64))])],[(.tmp 0 false [(.dat .bool)])],dialtoneref20_Valid⟩ :=
 tree_ok (plan:=planOf planj56) (eg:=egNo) KK tabL_ok (conOf_ok consj56_ok) Try.func56 (by kernel_rfl) (by kernel_rfl) 10000 (fun a r h=>Eq.trans (show _=dialtoneref20_Valid a from by kernel_rfl) h)
def planj58:List (Nat×PL):=[]
noncomputable def dialtoneref20_SameLog:(((List Int)×(Int×Int))×((List Int)×(Int×Int)))→Option Bool:=fun ((a1,(a2,a3)),(a4,(a5,a6))) =>
 bif (decide ((bytesU a1)=(bytesU a4))) then
 bif (decide (a2=a5)) then
 some (decide (a3=a6))
 else
 some Bool.false
 else
 some Bool.false
noncomputable def consj58:List (Nat×CE):=(56,⟨[(.tmp 0 true [(.dat (.list (.int .u8))),(.dat (.int .i64)),(.dat (.int .i64))])],[(.tmp 0 false [(.dat .bool)])],dialtoneref20_Valid⟩)::consj56
theorem consj58_ok:ConL Try.prog consj58:=⟨conj56,consj56_ok⟩
theorem conj58:ConOk Try.prog 58 ⟨[(.tmp 0 true [(.dat (.list (.int .u8))),(.dat (.int .i64)),(.dat (.int .i64))]),(.tmp 1 true [(.dat (.list (.int .u8))),(.dat (.int .i64)),(.dat (.int .i64))])],[(.tmp 0 false [(.dat .bool)])],dialtoneref20_SameLog⟩ :=
 tree_ok (plan:=planOf planj58) (eg:=egNo) KK tabL_ok (conOf_ok consj58_ok) Try.func58 (by kernel_rfl) (by kernel_rfl) 10000 (fun a r h=>Eq.trans (show _=dialtoneref20_SameLog a from by kernel_rfl) h)
def planj30:List (Nat×PL):=[]
noncomputable def journal_Append:(((List Int)×(Int×Int))×(Int×(List Int)))→Option (((List Int)×(Int×Int))×Int):=fun ((a1,(a2,a3)),(a4,a5)) =>
 bindO (journal_Valid (a1,(a2,a3))) fun x6 =>
 bif (!x6) then
 some ((([]:List Int),((0:Int),(0:Int))),(2:Int))
 else
 bif (decide (a3≥(1048576:Int))) then
 some ((([]:List Int),((0:Int),(0:Int))),(10:Int))
 else
 bindO (journal_Encode (a3,(a4,a5))) fun (x8,x9) =>
 bif (decide (x9≠(0:Int))) then
 some ((([]:List Int),((0:Int),(0:Int))),x9)
 else
 bindO (journal_joined (a1,x8)) fun x10 =>
 some ((x10,(a2,(Go.IntKind.wrap .i64 (a3+(1:Int))))),(0:Int))
noncomputable def consj30:List (Nat×CE):=(58,⟨[(.tmp 0 true [(.dat (.list (.int .u8))),(.dat (.int .i64)),(.dat (.int .i64))]),(.tmp 1 true [(.dat (.list (.int .u8))),(.dat (.int .i64)),(.dat (.int .i64))])],[(.tmp 0 false [(.dat .bool)])],dialtoneref20_SameLog⟩)::consj58
theorem consj30_ok:ConL Try.prog consj30:=⟨conj58,consj58_ok⟩
theorem conj30:ConOk Try.prog 30 ⟨[(.tmp 0 true [(.dat (.list (.int .u8))),(.dat (.int .i64)),(.dat (.int .i64))]),(.tmp 1 true [(.dat (.int .u8)),(.dat (.list (.int .u8)))])],[(.tmp 0 true [(.dat (.list (.int .u8))),(.dat (.int .i64)),(.dat (.int .i64))]),(.tmp 1 false [(.dat (.int .u8))])],journal_Append⟩ :=
 tree_ok (plan:=planOf planj30) (eg:=egNo) KK tabL_ok (conOf_ok consj30_ok) Try.func30 (by kernel_rfl) (by kernel_rfl) 10000 (fun a r h=>Eq.trans (show _=journal_Append a from by kernel_rfl) h)
def planj68:List (Nat×PL):=[]
noncomputable def journal_Sync:((List Int)×(Int×Int))→Option ((List Int)×(Int×Int)):=fun (a1,(a2,a3)) =>
 bindO (journal_Valid (a1,(a2,a3))) fun x4 =>
 bif (!x4) then
 some (([]:List Int),((0:Int),(0:Int)))
 else
 bindO (journal_joined (a1,([]:List Int))) fun x5 =>
 some (x5,((((List.length a1):Nat):Int),a3))
noncomputable def consj68:List (Nat×CE):=(30,⟨[(.tmp 0 true [(.dat (.list (.int .u8))),(.dat (.int .i64)),(.dat (.int .i64))]),(.tmp 1 true [(.dat (.int .u8)),(.dat (.list (.int .u8)))])],[(.tmp 0 true [(.dat (.list (.int .u8))),(.dat (.int .i64)),(.dat (.int .i64))]),(.tmp 1 false [(.dat (.int .u8))])],journal_Append⟩)::consj30
theorem consj68_ok:ConL Try.prog consj68:=⟨conj30,consj30_ok⟩
theorem conj68:ConOk Try.prog 68 ⟨[(.tmp 0 true [(.dat (.list (.int .u8))),(.dat (.int .i64)),(.dat (.int .i64))])],[(.tmp 0 true [(.dat (.list (.int .u8))),(.dat (.int .i64)),(.dat (.int .i64))])],journal_Sync⟩ :=
 tree_ok (plan:=planOf planj68) (eg:=egNo) KK tabL_ok (conOf_ok consj68_ok) Try.func68 (by kernel_rfl) (by kernel_rfl) 10000 (fun a r h=>Eq.trans (show _=journal_Sync a from by kernel_rfl) h)
end Go.Proofs.Ytkpijdndakljjaa

namespace Go.Proofs.Ytkpijdndakljjaa
open Go.RowKit
section
variable {P:Program} {GL:Nat→Option (List DV)} {q:Nat→Bool} {N:Nat} {E:En} {a:Act} {w:World} {s:S}
theorem eff_nodefer {T:Ty} {rd:Nat→Option AO} {slot:Nat} {o:Oper} {ρ:Operand→AV} {f:Eff} (hf:eff T q rd slot o ρ=some f):∀c,o.op ≠ .defer c:=fun c h=>by
 unfold eff at hf
 simp only [effQ,effH,effN,h] at hf
 revert hf
 repeat' split
 all_goals simp_all
end
structure WideF (P:Program) (F:Fence):Prop where
 fn:∀f,F.fn f
 dep:F.depth=none
 calls:∀ {n:Nat} {f:FuncId} {args:Array Value} {w:World} {R:Ending→World→Prop},Calls P f args w R→CallsIn F n P f args w R
theorem wideF (P:Program):WideF P Fence.wide:=⟨fun _=>trivial,rfl,fun h=>callsIn_wide.2 h⟩
theorem wideR (P:Program) (l:Nat):WideF P (Fence.wide.inRound l):=⟨fun _=>trivial,rfl,fun h=>CallsIn.inRound l (callsIn_wide.2 h)⟩
structure SimD (df:List Deferred) (GL:Nat→Option (List DV)) (N:Nat) (E:En) (a:Act) (w:World) (s:S):Prop where
 sm:Sim GL N E ⟨a.tmps,[]⟩ w s
 dq:a.defers=df
theorem put_tm (a:Act) (d:Option Nat) (v:Value):(⟨(a.put d v).tmps,[]⟩:Act)=(⟨a.tmps,[]⟩:Act).put d v:=by cases d<;>rfl
theorem put_df (a:Act) (d:Option Nat) (v:Value):(a.put d v).defers=a.defers:=by cases d<;>rfl
section
variable {df:List Deferred} {GL:Nat→Option (List DV)} {N:Nat} {E:En} {a:Act} {w:World} {s:S}
theorem SimD.h (h:SimD df GL N E a w s):w.heap=E.h:=h.sm.h
theorem SimD.hp (h:SimD df GL N E a w s):E.hp=s.hp:=h.sm.hp
theorem SimD.sim (h:SimD df GL N E a w s):SimH GL E:=h.sm.sim
theorem SimD.ev (h:SimD df GL N E a w s) (x:Operand):Rel E (s.ev GL x) (a.eval x):=h.sm.ev x
theorem SimD.drew (h:SimD df GL N E a w s):SimD df GL N E a {w with drawn:=w.drawn+1} s:=⟨h.sm.drew,h.dq⟩
theorem SimD.put (h:SimD df GL N E a w s) {E':En} {w':World} {us:List (Nat×AO)} (hg:Goes GL E w us E' w') {d:Option Nat} (hd:∀t,d=some t→t<N) {v:AV} {u:Value} (hr:Rel E' v u) :
 SimD df GL N E' (a.put d u) w' {(s.put d v) with hp:=updF s.hp us}:=⟨by rw [put_tm];exact h.sm.put hg hd hr,by rw [put_df];exact h.dq⟩
theorem wanted_simD {ops:Array Oper} (h:SimD df GL N E a w s) {o:Oper} {b:Bool} (hw:wantedS ops s o=some b):Region.wanted o (yielded ops a.tmps)=b:=wanted_sim h.sm hw
end
section
variable {df:List Deferred} {F:Fence} {P:Program} {GL:Nat→Option (List DV)} {q:Nat→Bool} {N:Nat} {E:En} {a:Act} {w:World} {s:S}
theorem op_simI (hF:WideF P F) (n:Nat) (hq:QOk P q) (hdp:30≤P.depth) (h:SimD df GL N E a w s) {slot:Nat} {o:Oper} {e:Ef} (he:EfR P GL q slot o s e) (hd:∀t,o.dst=some t→t<N) {K:Act→World→Prop} {Q:Exit→Act→World→Prop}
 (hK:∀a' w' E',Goes GL E w e.upd E' w'→SimD df GL N E' a' w' (s.app o.dst e)→K a' w'):o.wpIn F n P a w K Q:=by
 obtain ⟨_,he⟩:=he
 refine ⟨fun f _=>hF.fn f,?_⟩
 split at he
 ·rename_i f args hc
  obtain ⟨_,hdo⟩:=he
  obtain ⟨vs,hrun,hrel⟩:=call_exec0 (P:=P) h.sm hc
  rw [show (⟨a.tmps,[]⟩:Act).eval=a.eval from rfl] at hrun
  rw [Oper.semAt_eq _ _ _ (fun c hcd=>by unfold callA at hc;rw [hcd] at hc;cases hc),hrun]
  rcases hdo with ⟨hf,hdo⟩ | hdo
  ·rw [call_enter hf]
   refine ⟨fun g=>(by rw [hF.dep] at g;cases g),hF.calls ((hdo E w vs (fun r _=>by rw [h.hp]) h.h h.sim hrel).mono ?_)⟩
   rintro en w' ⟨u,E',rfl,hg,hr⟩
   exact hK _ _ E' hg (h.put hg hd hr)
  ·obtain ⟨u,w',E',hrun2,hg,hr⟩:=hdo E w vs (fun r _=>by rw [h.hp]) h.h h.sim hrel
   rw [hrun2]
   exact hK _ _ E' hg (h.put hg hd hr)
 ·rename_i hc
  obtain ⟨f,hf,e1,e2,_,_⟩:=he
  obtain ⟨n',w',E',u,hrun,hn,hg,hr⟩:=eff_sim hq hdp h.sm hf
  rw [show (⟨a.tmps,[]⟩:Act).eval=a.eval from rfl] at hrun
  rw [Oper.semAt_eq _ _ _ (eff_nodefer hf),hrun]
  rw [←e2] at hg
  rw [←e1] at hr
  rcases hn with rfl | ⟨rfl,rfl⟩
  ·exact hK _ _ E' hg (h.put hg hd hr)
  ·exact hK _ _ E' hg (h.put hg hd hr)
end
section
variable {df:List Deferred} {F:Fence} {P:Program} {GL:Nat→Option (List DV)} {q:Nat→Bool} {N base:Nat} {ops:Array Oper}
theorem step_wpI (hF:WideF P F) (n:Nat) (hq:QOk P q) (hdp:30≤P.depth) {E0:En} {w0:World} {E:En} {a:Act} {w:World} {s:S} (hS:SimD df GL N E a w s) (hA:Along E0 w0 E w) {i:Nat} {e:Ef} (h:StepR P GL q N base ops i s e) {Q:Exit→Act→World→Prop} {K:Act→World→Prop}
 (hK:∀E' a' w',SimD df GL N E' a' w' (s.app (dstOf ops i) e)→Along E0 w0 E' w'→K a' w'):wpOpIn F n P ops Q i K a w:=by
 unfold StepR at h
 unfold wpOpIn
 split at h
 ·exact h.elim
 ·rename_i o ho
  rw [ho]
  simp only
  have hdi:dstOf ops i=o.dst:=by simp [dstOf,ho]
  rw [hdi] at hK
  obtain ⟨hd,⟨hw,he⟩ | ⟨hw,rfl⟩⟩:=h
  ·rw [wanted_simD hS hw,if_pos rfl]
   exact op_simI hF n hq hdp hS he hd fun a' w' E' hg hs=>hK E' a' w' hs (hA.goes hg)
  ·rw [wanted_simD hS hw,if_neg (by simp)]
   have:=hS.put (Goes.refl hS.h hS.sim) hd (v := .undef) (u:=undef) (by rw [Rel])
   exact ⟨fun f _=>hF.fn f,hK E _ w this hA⟩
theorem run_wpI (hF:WideF P F) (n:Nat) (hq:QOk P q) (hdp:30≤P.depth) {E0:En} {w0:World} {Q:Exit→Act→World→Prop} {s':S} (hQ:∀E' a' w',SimD df GL N E' a' w' s'→Along E0 w0 E' w'→Q .normal a' w'):∀(L:List (Nat×Ef)) (E:En) (a:Act) (w:World) (s:S),Run P GL q N base ops L s s'→SimD df GL N E a w s→Along E0 w0 E w→wpOpsIn F n P ops Q (L.map (·.1)) a w
 | [],E,a,w,s,hR,hS,hA=>by
   have:s=s':=hR
   subst this
   exact hQ E a w hS hA
 | (i,e)::L,E,a,w,s,hR,hS,hA=>by
   rw [List.map_cons,wpOpsIn_cons]
   exact step_wpI hF n hq hdp hS hA hR.1 fun E' a' w' hs ha=>run_wpI hF n hq hdp hQ L E' a' w' _ hR.2 hs ha
theorem any_wpI (hF:WideF P F) (fn:Nat) (hq:QOk P q) (hdp:30≤P.depth) (hback:backB ops=true) {E0:En} {w0:World} {Q:Exit→Act→World→Prop} {s':S} (hQ:∀E' a' w',SimD df GL N E' a' w' s'→Along E0 w0 E' w'→Q .normal a' w'):∀(n:Nat) (L:List (Nat×Ef)) (listed:Array Bool) (E:En) (a:Act) (w:World) (s:S),L.length=n →
 ClosedA ops listed→(∀i,listed.getD i true=false∧i<ops.size↔i∈L.map (·.1))→(L.map (·.1)).Pairwise (· < ·) →
 L.Pairwise (fun x y=>x.1∈(ancT ops ops.size).getD y.1 []∨∃ox oy,ops[x.1]? = some ox∧ops[y.1]? = some oy∧ox.apart ops oy=true∧ncB x.2 y.2=true) →
 Run P GL q N base ops L s s'→SimD df GL N E a w s→Along E0 w0 E w→wpAnyIn F fn P .any ops Q n listed a w
 | 0,L,listed,E,a,w,s,hn,hC,hL,hsort,hchk,hR,hS,hA=>by
   have:L=[]:=List.eq_nil_of_length_eq_zero hn
   subst this
   have hs:s=s':=hR
   subst hs
   refine ⟨?_,hQ E a w hS hA⟩
   cases hr:Region.ready .any ops listed with
   | nil=>rfl
   | cons i l =>
     have hi:i∈Region.ready .any ops listed:=by rw [hr];exact List.mem_cons_self
     obtain ⟨h1,o,h2,_⟩:=mem_ready.1 hi
     have:=(hL i).1 ⟨h1,(Array.getElem?_eq_some_iff.1 h2).1⟩
     simp at this
 | n+1,L,listed,E,a,w,s,hn,hC,hL,hsort,hchk,hR,hS,hA=>by
   have hready:∀i,i∈Region.ready .any ops listed→i∈L.map (·.1):=fun i hi=>by
    obtain ⟨h1,o,h2,_⟩:=mem_ready.1 hi
    exact (hL i).1 ⟨h1,(Array.getElem?_eq_some_iff.1 h2).1⟩
   refine ⟨fun h0 => ?_,fun i hi => ?_⟩
   ·exfalso
    cases L with
    | nil=>simp at hn
    | cons x L =>
      obtain ⟨i,e⟩:=x
      obtain ⟨hun,hlt⟩:=(hL i).2 (by simp)
      have hrd:i∈Region.ready .any ops listed:=by
       refine mem_ready.2 ⟨hun,ops[i],Array.getElem?_eq_getElem hlt,fun ed hed hb => ?_⟩
       have hp:ed.on∈parentsA ops i:=by
        unfold parentsA
        rw [Array.getElem?_eq_getElem hlt]
        exact List.mem_map.2 ⟨ed,List.mem_filter.2 ⟨by simpa using hed,hb⟩,rfl⟩
       have hlt2:ed.on<i:=by
        have:=List.all_eq_true.1 hback i (List.mem_range.2 hlt)
        have:=List.all_eq_true.1 this _ hp
        simpa using this
       cases hg:listed.getD ed.on false with
       | true=>rfl
       | false =>
         have hnot:ed.on∉List.map (·.1) ((i,e)::L):=fun hm=>by
          rcases List.mem_cons.1 hm with h | h
          ·simp at h;omega
          ·have:=(List.pairwise_cons.1 hsort).1 _ h
           simp at this
           omega
         have h6:¬(listed.getD ed.on true=false∧ed.on<ops.size):=fun h=>hnot ((hL ed.on).1 h)
         have:listed.getD ed.on true=true:=by
          cases h7:listed.getD ed.on true with
          | true=>rfl
          | false=>exact (h6 ⟨h7,by omega⟩).elim
         have hsz:ed.on<listed.size:=by
          have h8:i<listed.size:=by
           rcases Nat.lt_or_ge i listed.size with h | h
           ·exact h
           ·rw [Array.getD_eq_getD_getElem?,Array.getElem?_eq_none h] at hun;simp at hun
          omega
         rw [Array.getD_eq_getD_getElem?,Array.getElem?_eq_getElem hsz] at this hg
         simp at this hg
         rw [this] at hg
         cases hg
      rw [h0] at hrd
      cases hrd
   ·obtain ⟨⟨i',e⟩,hmem,rfl⟩:=List.mem_map.1 (hready i hi)
    simp only at hi ⊢
    obtain ⟨l1,l2,rfl⟩:=List.append_of_mem hmem
    obtain ⟨_,oi,hoi,_⟩:=mem_ready.1 hi
    have hun:∀j,j∈(l1++(i',e)::l2).map (·.1)→listed.getD j false=false:=fun j hj=>by
     obtain ⟨h1,h2⟩:=(hL j).2 hj
     rcases Nat.lt_or_ge j listed.size with h | h
     ·rw [Array.getD_eq_getD_getElem?,Array.getElem?_eq_getElem h] at h1 ⊢
      simpa using h1
     ·rw [Array.getD_eq_getD_getElem?,Array.getElem?_eq_none h] at h1;simp at h1
    have hall:∀j ej,(j,ej)∈l1→∃oj,ops[j]? = some oj∧oj.apart ops oi=true∧ncB ej e=true:=fun j ej hj=>by
     have hpw:=(List.pairwise_append.1 hchk).2.2 (j,ej) hj (i',e) List.mem_cons_self
     rcases hpw with hanc | ⟨ox,oy,h1,h2,h3,h4⟩
     ·have:=ancT_listed hC _ _ _ (ready_parentsA hi) hanc
      rw [hun j (List.mem_map.2 ⟨_,List.mem_append_left _ hj,rfl⟩)] at this
      cases this
     ·simp only at h1 h2
      rw [hoi] at h2
      cases h2
      exact ⟨ox,h1,h3,h4⟩
    obtain ⟨g1,g2⟩:=bubble hoi l1 l2 s s' hall hR
    refine step_wpI hF fn hq hdp hS hA g1 fun E' a' w' hs ha => ?_
    refine any_wpI hF fn hq hdp hback hQ n (l1++l2) _ E' a' w' _ (by simp at hn ⊢;omega) (hC.set hi) (fun j => ?_) ?_ ?_ g2 hs ha
    ·have hnd:∀k,k∈(l1++l2).map (·.1)→k≠i':=fun k hk e0=>by
      subst e0
      rw [List.map_append,List.map_cons] at hsort
      rw [List.map_append] at hk
      rcases List.mem_append.1 hk with hk | hk
      ·have:=(List.pairwise_append.1 hsort).2.2 k hk k List.mem_cons_self
       omega
      ·have:=(List.pairwise_cons.1 (List.pairwise_append.1 hsort).2.1).1 k hk
       omega
     by_cases hji:i'=j
     ·subst hji
      constructor
      ·rintro ⟨h1,h2⟩
       have hsz:i'<listed.size:=by
        rcases Nat.lt_or_ge i' listed.size with h | h
        ·exact h
        ·have:=(mem_ready.1 hi).1
         rw [Array.getD_eq_getD_getElem?,Array.getElem?_eq_none h] at this;simp at this
       rw [Array.getD_eq_getD_getElem?,Array.getElem?_setIfInBounds_self_of_lt hsz] at h1
       simp at h1
      ·intro h;exact (hnd _ h rfl).elim
     ·rw [getD_set_ne true hji]
      rw [hL j]
      simp only [List.map_append,List.map_cons,List.mem_append,List.mem_cons]
      constructor
      ·rintro (h | h | h)
       ·exact .inl h
       ·exact (hji h.symm).elim
       ·exact .inr h
      ·rintro (h | h)
       ·exact .inl h
       ·exact .inr (.inr h)
    ·rw [List.map_append] at hsort ⊢
     rw [List.map_cons] at hsort
     obtain ⟨p1,p2,p3⟩:=List.pairwise_append.1 hsort
     exact List.pairwise_append.2 ⟨p1,(List.pairwise_cons.1 p2).2,fun x hx y hy=>p3 x hx y (List.mem_cons_of_mem _ hy)⟩
    ·obtain ⟨p1,p2,p3⟩:=List.pairwise_append.1 hchk
     exact List.pairwise_append.2 ⟨p1,(List.pairwise_cons.1 p2).2,fun x hx y hy=>p3 x hx y (List.mem_cons_of_mem _ hy)⟩
end
def AWI (df:List Deferred) (F:Fence) (n:Nat) (P:Program) (GL:Nat→Option (List DV)) (N:Nat) (hp0:Nat→Option AO) (c:Code) (Q:Exit→S→Prop) (s:S):Prop :=
 ∀(E0:En) (w0:World) (E:En) (a:Act) (w:World),E0.hp=hp0→SimD df GL N E a w s→Along E0 w0 E w→c.wpIn F n P (fun x a' w'=>∃s' E',Q x s'∧SimD df GL N E' a' w' s'∧Along E0 w0 E' w') a w
section
variable {df:List Deferred} {F:Fence} {n:Nat} {P:Program} {GL:Nat→Option (List DV)} {q:Nat→Bool} {N:Nat} {hp0:Nat→Option AO} {Q Q':Exit→S→Prop} {s:S}
theorem AWI.mono {c:Code} (h:AWI df F n P GL N hp0 c Q s) (hq:∀e s,Q e s→Q' e s):AWI df F n P GL N hp0 c Q' s :=
 fun E0 w0 E a w h0 hS hA=>wpIn_mono (h E0 w0 E a w h0 hS hA) fun e a w ⟨s',E',h1,h2⟩=>⟨s',E',hq _ _ h1,h2⟩
theorem aw_skipI (h:Q .normal s):AWI df F n P GL N hp0 .skip Q s:=fun E0 w0 E a w h0 hS hA=>wpIn_skip ⟨s,E,h,hS,hA⟩
theorem aw_exitI {id:Nat} (h:Q (.exit id) s):AWI df F n P GL N hp0 (.exit id) Q s:=fun E0 w0 E a w h0 hS hA=>wpIn_exit ⟨s,E,h,hS,hA⟩
theorem aw_retI (h:Q .ret s):AWI df F n P GL N hp0 .ret Q s:=fun E0 w0 E a w h0 hS hA=>wpIn_ret ⟨s,E,h,hS,hA⟩
theorem aw_seqI {x y:Code} (h:AWI df F n P GL N hp0 x (seqQ (AWI df F n P GL N hp0 y Q) Q) s):AWI df F n P GL N hp0 (.seq x y) Q s:=fun E0 w0 E a w h0 hS hA=>by
 refine wpIn_seq (wpIn_mono (h E0 w0 E a w h0 hS hA) fun e a' w' ⟨s',E',h1,h2,h3⟩ => ?_)
 cases e<;>first | exact h1 E0 w0 E' a' w' h0 h2 h3 | exact ⟨s',E',h1,h2,h3⟩
theorem aw_condI {c:Operand} {x y:Code} {b:Bool} (hc:s.ev GL c = .d (.val (.bool b))) (h1:b=true→AWI df F n P GL N hp0 x Q s) (h2:b=false→AWI df F n P GL N hp0 y Q s):AWI df F n P GL N hp0 (.cond c x y) Q s:=fun E0 w0 E a w h0 hS hA=>by
 have hr:=hS.ev c
 rw [hc] at hr
 refine wpIn_cond (rel_val hr) ?_
 cases b with
 | true=>exact h1 rfl E0 w0 E a w h0 hS hA
 | false=>exact h2 rfl E0 w0 E a w h0 hS hA
theorem aw_anyI {c:Operand} {x y:Code} (hc:s.ev GL c = .ab) (h1:AWI df F n P GL N hp0 x Q s) (h2:AWI df F n P GL N hp0 y Q s):AWI df F n P GL N hp0 (.cond c x y) Q s:=fun E0 w0 E a w h0 hS hA=>by
 have hr:=hS.ev c
 rw [hc,Rel] at hr
 obtain ⟨b,hb⟩:=hr
 refine wpIn_cond hb ?_
 cases b with
 | true=>exact h1 E0 w0 E a w h0 hS hA
 | false=>exact h2 E0 w0 E a w h0 hS hA
theorem aw_blockI {id:Nat} {c:Code} (h:AWI df F n P GL N hp0 c (blkQ id Q) s):AWI df F n P GL N hp0 (.block id c) Q s:=fun E0 w0 E a w h0 hS hA=>by
 refine wpIn_block (wpIn_mono (h E0 w0 E a w h0 hS hA) fun e a' w' ⟨s',E',h1,h2,h3⟩ => ?_)
 cases e with
 | exit i =>
   simp only [blkQ,Exit.inBlock] at h1 ⊢
   by_cases hi:i=id
   ·rw [if_pos hi] at h1 ⊢;exact ⟨s',E',h1,h2,h3⟩
   ·rw [if_neg hi] at h1 ⊢;exact ⟨s',E',h1,h2,h3⟩
 | _=>exact ⟨s',E',h1,h2,h3⟩
end
section
variable {df:List Deferred} {F:Fence} {n:Nat} {P:Program} {GL:Nat→Option (List DV)} {q:Nat→Bool} {N:Nat} {ops:Array Oper} {draw:Bool} {anc:List (List Nat)} {hp0:Nat→Option AO}
theorem aw_regionI (hF:WideF P F) (hq:QOk P q) (hdp:30≤P.depth) (hm:P.follows .mixedOrders=true) {id:Nat} {Q:Exit→S→Prop} {s:SL} (hback:draw=true→backB ops=true) (hanc:draw=true→anc=ancT ops ops.size) {C:Cxt} (hC:∀f args rds v us hp,C.D f args rds v us hp→DX P GL f args rds v us hp) {K:SL→Prop} (hK:∀s',K s'→Q .normal s'.S)
 (h:aops C (tiOf P) GL q N (slotBase id) ops draw anc K (List.range ops.size) s []):AWI df F n P GL N hp0 (.region id ops draw) Q s.S:=fun E0 w0 E a w h0 hS hA=>by
 obtain ⟨L,s',g1,g2,g3,g4,g5⟩:=aops_run hanc hC _ _ _ h
 have hQ:∀E' a' w',SimD df GL N E' a' w' s'.S→Along E0 w0 E' w'→(fun (x:Exit) (a':Act) (w':World)=>∃s' E',Q x s'∧SimD df GL N E' a' w' s'∧Along E0 w0 E' w') .normal a' w':=fun E' a' w' h1 h2=>⟨s'.S,E',hK _ g3,h1,h2⟩
 cases draw with
 | false =>
   refine wpIn_region ?_
   rw [←g1]
   exact run_wpI hF n (P:=P) (Q:=fun (x:Exit) (a':Act) (w':World)=>∃s' E',Q x s'∧SimD df GL N E' a' w' s'∧Along E0 w0 E' w') hq hdp hQ L E a w s.S g2 hS hA
 | true =>
   refine wpIn_region_any hm ?_
   have hlen:L.length=ops.size:=by
    have:=congrArg List.length g1
    simpa using this
   have:=any_wpI hF n (P:=P) (Q:=fun (x:Exit) (a':Act) (w':World)=>∃s' E',Q x s'∧SimD df GL N E' a' w' s'∧Along E0 w0 E' w') hq hdp (hback rfl) hQ ops.size L (Array.replicate ops.size false) E a {w with drawn:=w.drawn+1} s.S hlen
    (fun j hj=>by
      exfalso
      rw [Array.getD_eq_getD_getElem?] at hj
      rcases Nat.lt_or_ge j ops.size with hlt | hge
      ·rw [Array.getElem?_replicate,if_pos hlt] at hj;simp at hj
      ·rw [Array.getElem?_replicate,if_neg (by omega)] at hj;simp at hj)
    (fun i=>by
      rw [g1,List.mem_range]
      constructor
      ·exact fun h=>h.2
      ·intro hi
       refine ⟨?_,hi⟩
       rw [Array.getD_eq_getD_getElem?,Array.getElem?_replicate,if_pos hi]
       rfl)
    (by rw [g1];exact List.pairwise_lt_range) (g5 rfl) g2 hS.drew hA.drew
   exact this
def nsB:Code→Bool
 | .seq a b=>nsB a&&nsB b
 | .cond _ t e=>nsB t&&nsB e
 | .block _ c=>nsB c
 | .skip=>true
 | .region _ _ _=>true
 | .exit _=>true
 | .ret=>true
 | _=>false
end
section
variable {df:List Deferred} {F:Fence} {P:Program} {T:Ty} {GL:Nat→Option (List DV)} {q:Nat→Bool} {N:Nat} {hp0:Nat→Option AO}
theorem acode_soundI (hF:WideF P F) (n:Nat) (hq:QOk P q) (hdp:30≤P.depth) (hm:P.follows .mixedOrders=true) (hT:tiOf P=T):∀(c:Code) (Q:Exit→SL→Prop) (s:SL),nsB c=true→acode (cxtOf P GL N hp0) T GL q N c Q s→AWI df F n P GL N hp0 c (LQ Q) s.S
 | .skip,Q,s,_,h=>aw_skipI ⟨s,rfl,h⟩
 | .region id ops draw,Q,s,_,h=>by
   rw [acode] at h
   subst hT
   split at h
   ·rename_i hb
    exact aw_regionI hF hq hdp hm (draw_or hb) (fun hd=>by rw [hd];rfl) (fun f args rds v us hp h=>h) (fun s' hs=>⟨s',rfl,hs⟩) h
   ·exact h.elim
 | .seq a b,Q,s,hn,h=>by
   rw [acode] at h
   rw [nsB,Bool.and_eq_true] at hn
   refine aw_seqI (AWI.mono (acode_soundI hF n hq hdp hm hT a _ s hn.1 h) fun e s' ⟨sl,h1,h2⟩ => ?_)
   subst h1
   cases e with
   | normal=>exact acode_soundI hF n hq hdp hm hT b Q sl hn.2 h2
   | _=>exact ⟨sl,rfl,h2⟩
 | .cond c t e,Q,s,hn,h=>by
   rw [acode] at h
   rw [nsB,Bool.and_eq_true] at hn
   split at h
   ·rename_i b hb
    refine aw_condI (by rw [SL.ev_S];exact hb) (fun hb => ?_) (fun hb => ?_)
    ·subst hb;exact acode_soundI hF n hq hdp hm hT t Q s hn.1 h
    ·subst hb;exact acode_soundI hF n hq hdp hm hT e Q s hn.2 h
   ·rename_i hb
    exact aw_anyI (by rw [SL.ev_S];exact hb) (acode_soundI hF n hq hdp hm hT t Q s hn.1 h.1) (acode_soundI hF n hq hdp hm hT e Q s hn.2 h.2)
   ·exact h.elim
 | .block id c,Q,s,hn,h=>by
   rw [acode] at h
   refine aw_blockI (AWI.mono (acode_soundI hF n hq hdp hm hT c _ s hn h) fun e s' ⟨sl,h1,h2⟩ => ?_)
   subst h1
   cases e with
   | exit i =>
     simp only [blkQ] at h2 ⊢
     by_cases hi:i=id
     ·rw [if_pos hi] at h2 ⊢;exact ⟨sl,rfl,h2⟩
     ·rw [if_neg hi] at h2 ⊢;exact ⟨sl,rfl,h2⟩
   | _=>exact ⟨sl,rfl,h2⟩
 | .exit id,Q,s,_,h=>aw_exitI ⟨s,rfl,h⟩
 | .ret,Q,s,_,h=>aw_retI ⟨s,rfl,h⟩
 | .label l,Q,s,hn,h=>by cases hn
 | .loop c,Q,s,hn,h=>by cases hn
 | .rangeFunc _ _ _ _,Q,s,_,h=>h.elim
 | .scope c,Q,s,hn,h=>by cases hn
 | .goto _,Q,s,_,h=>h.elim
 | .refuse _,Q,s,_,h=>h.elim
end
end Go.Proofs.Ytkpijdndakljjaa

namespace Go.Proofs.Ytkpijdndakljjaa
open Go.RowKit Go.Shelf
attribute [local go_sem] Oper.semAt_some
def begN (at0 first step:Int):Nat→Int
 | 0=>at0
 | k+1=>wrap64 (begN at0 first step k+wrap64 (1000*(if k=0 then first else step)))
set_option maxRecDepth 100000 in
set_option maxHeartbeats 1000000 in
theorem iter_in (m l ba bn br:Nat) (at0 first step:Int) (n:Nat) (hn:(n:Int)≤4000000000000000000) (I:Nat→World→Prop)
 (hc:∀k W,I k W→W.cell? ⟨ba,0,none⟩=some (.int .i64 at0)∧W.cell? ⟨bn,0,none⟩=some (.int .i64 n)∧W.cell? ⟨br,2,none⟩=some (.int .i64 first)∧W.cell? ⟨br,3,none⟩=some (.int .i64 step))
 (hY:∀k W,k<n→I k W→YieldAt Fence.wide (m-1) Try.prog l #[.int .i64 k,.int .i64 (begN at0 first step k)] W fun e W'=>e = .returned (.bool true)∧I (k+1) W')
 (W:World) (h0:I 0 W):CallsIn Fence.wide m Try.prog 126 #[.func (.yield l) #[] #[],.pointer (some ⟨ba,0,none⟩),.pointer (some ⟨bn,0,none⟩),.pointer (some ⟨br,0,none⟩)] W fun e W'=>(∃v,e = .returned v)∧I n W':=by
 refine callsIn_of_wp Try.func126 rfl trivial ?_ rfl
 simp only [Try.ntmps126,List.size_toArray,List.length_cons,List.length_nil,Nat.reduceAdd,Nat.reduceSub,Array.replicate_succ,Array.replicate_zero,List.push_toArray,List.append_toArray,List.nil_append,List.cons_append]
 obtain ⟨c1,c2,c3,c4⟩:=hc 0 W h0
 gi_wp2
 gi_loopw [5,9] (fun p5 p9 wr=>∃k:Nat,p5 = .int .i64 (begN at0 first step k)∧p9 = .int .i64 k∧k≤n∧I k wr)
  (fun p5 p9 wr=>n-(intOf p9).toNat)
 case atStart =>
  exact ⟨0,rfl,rfl,Nat.zero_le _,h0⟩
 case round =>
  obtain ⟨k,rfl,rfl,hk,hI⟩:=hrel
  obtain ⟨c1,c2,c3,c4⟩:=hc k wr hI
  by_cases hlt:k<n
  ·have hlt':(k:Int)<(n:Int):=by omega
   obtain ⟨fn,tmps,assign,body,hy,hR⟩:=hY k wr hlt hI
   gi_wp2
   refine ⟨fun g=>(by cases g),hR.mono ?_⟩
   rintro e W3 ⟨rfl,hI3⟩
   obtain ⟨d1,d2,d3,d4⟩:=hc (k+1) W3 hI3
   gi_wp2
   ·rename_i hb
    have hk0:k=0:=by simpa using hb
    exact ⟨⟨k+1,by rw [begN,if_pos hk0],rfl,by omega,hI3⟩,by simp only [intOf];omega⟩
   ·rename_i hb
    have hk0:¬k=0:=by simpa using hb
    exact ⟨⟨k+1,by rw [begN,if_neg hk0],rfl,by omega,hI3⟩,by simp only [intOf];omega⟩
  ·have hge:(n:Int)≤(k:Int):=by omega
   gi_wp2
   go_end0
   exact ⟨⟨_,rfl⟩,by rw [show n=k from by omega];exact hI⟩
end Go.Proofs.Ytkpijdndakljjaa

namespace Go.Proofs.Ytkpijdndakljjaa
open Go.RowKit
set_option maxHeartbeats 4000000
set_option maxRecDepth 10000
def nest:List Code→Code→Code
 | [],c=>c
 | x::xs,c => .seq x (nest xs c)
def spine:Nat→Code→List Code×Code
 | n+1,.seq a b=>(a::(spine n b).1,(spine n b).2)
 | _,c=>([],c)
theorem spine_nest:∀(n:Nat) (c:Code),nest (spine n c).1 (spine n c).2=c
 | 0,c=>by cases c<;>rfl
 | n+1,.seq a b=>by
   show Code.seq a (nest (spine n b).1 (spine n b).2)=_
   rw [spine_nest n b]
 | _+1,.skip=>rfl
 | _+1,.region _ _ _=>rfl
 | _+1,.cond _ _ _=>rfl
 | _+1,.block _ _=>rfl
 | _+1,.loop _=>rfl
 | _+1,.exit _=>rfl
 | _+1,.ret=>rfl
 | _+1,.label _=>rfl
 | _+1,.goto _=>rfl
 | _+1,.scope _=>rfl
 | _+1,.refuse _=>rfl
 | _+1,.rangeFunc _ _ _ _=>rfl
def preC (n:Nat) (c:Code):List Code:=(spine n c).1++(match (spine n c).2 with | .seq (.seq y _) _=>[y] | _=>[])
section
variable (p:Pr) (C:Cxt) (T:Ty) (GL:Nat→Option (List DV)) (q:Nat→Bool) (N:Nat) (Z:SL→Prop)
def acodeNP:List Code→(Exit→SL→Prop)→SL→Prop
 | [],_,s=>Z s
 | x::xs,Q,s=>acodeP p C T GL q N x (seqQ (fun s'=>acodeNP xs Q s') Q) s
end
section
variable {P:Program} {L:List (List (Option TI))} {cs:List Nat} {N:Nat} {hp0:Nat→Option AO}
theorem acodeN_sound (K:Facts P L cs) {Z:SL→Prop} {Q:Exit→SL→Prop} {E0:En} {w0:World} (h0:E0.hp=hp0) {Qc:Exit→Act→World→Prop} {rest:Code}
 (hZ:∀s' E a w,Z s'→Sim noG N E a w s'.S→Along E0 w0 E w→rest.wp P Qc a w) (hQ:∀e s' E a w,e ≠ .normal→Q e s'→Sim noG N E a w s'.S→Along E0 w0 E w→Qc e a w) :
 ∀(xs:List Code) (s:SL),acodeNP real (cxtOf P noG N hp0) (tabF (tiOf P) L) noG (qOf cs) N Z xs Q s→∀E a w,Sim noG N E a w s.S→Along E0 w0 E w→(nest xs rest).wp P Qc a w
 | [],s,h,E,a,w,hS,hA=>hZ s E a w h hS hA
 | x::xs,s,h,E,a,w,hS,hA=>by
   unfold acodeNP at h
   rw [acodeP_real] at h
   refine wp_seq (wp_mono (acode_sound K.hq K.hdp K.hm K.hT x _ s h E0 w0 E a w h0 hS hA) fun e a' w' ⟨s',E',⟨sl,h1,h2⟩,h3,h4⟩ => ?_)
   subst h1
   cases e with
   | normal=>exact acodeN_sound K h0 hZ hQ xs sl h2 E' a' w' h3 h4
   | _=>exact hQ _ sl E' a' w' (by simp) h2 h3 h4
end
abbrev UP:U := .pair (.pair (.int .u8) (.pair (.int .i64) (.int .i64))) (.pair (.int .i64) (.int .i64))
abbrev UR:U := .pair .str (.pair (.int .i64) (.pair (.int .i64) (.pair (.int .i64) (.list UP))))
abbrev Pr1:=(Int×(Int×Int))×(Int×Int)
abbrev Ra:=List UInt8×(Int×(Int×(Int×List Pr1)))
section
variable {rd:Nat→Option AO}
theorem valid_v {rs:List Ra} {fr:Int} {x:Bool} {cells:List DV} {n:Nat} (h:rating_Valid (rs,fr)=some x) (hc:encL UR rs=cells) (hn:rs.length=n):∃c:Unit,True∧Does Try.prog noG 61 [.agg [.d (.dl cells n none),.d (.val (.int .i64 fr))]] [] (.d (.val (.bool x))) [] rd:=by
 subst hc hn
 exact ⟨(),trivial,does_data (con61.2 (rs,fr) x h) rfl⟩
theorem within_v {a b c:Int} {x:Bool} (h:rating_within (a,(b,c))=some x):∃c':Unit,True∧Does Try.prog noG 86 [.d (.val (.int .i64 a)),.d (.val (.int .i64 b)),.d (.val (.int .i64 c))] [] (.d (.val (.bool x))) [] rd :=
 ⟨(),trivial,does_data (con86.2 (a,(b,c)) x h) rfl⟩
theorem seconds_v {a b x:Int} (h:rating_Seconds (a,b)=some x):∃c':Unit,True∧Does Try.prog noG 76 [.d (.val (.int .i64 a)),.d (.val (.int .i64 b))] [] (.d (.val (.int .i64 x))) [] rd :=
 ⟨(),trivial,does_data (con76.2 (a,b) x h) rfl⟩
theorem find_v {rs:List Ra} {fr:Int} {num:List UInt8} {x:Int×Bool} {cells:List DV} {n:Nat} {nb:ByteArray} (h:rating_Find ((rs,fr),num)=some x) (hc:encL UR rs=cells) (hn:rs.length=n) (hb:(⟨num.toArray⟩:ByteArray)=nb):∃c:Unit,True∧Does Try.prog noG 104 [.agg [.d (.dl cells n none),.d (.val (.int .i64 fr))],.d (.val (.string nb))] [] (.tup [.d (.val (.int .i64 x.1)),.d (.val (.bool x.2))]) [] rd:=by
 subst hc hn hb
 exact ⟨(),trivial,does_data (con104.2 ((rs,fr),num) x h) rfl⟩
theorem pieces_v {R:Ra} {fr se x rc rf rst:Int} {rb:ByteArray} {cells:List DV} {n:Nat} (h:rating_Pieces (R,(fr,se))=some x) (hrb:(⟨R.1.toArray⟩:ByteArray)=rb) (hrc:R.2.1=rc) (hrf:R.2.2.1=rf) (hrst:R.2.2.2.1=rst) (hc:encL UP R.2.2.2.2=cells) (hn:R.2.2.2.2.length=n):∃c:Unit,True∧Does Try.prog noG 105 [.agg [.d (.val (.string rb)),.d (.val (.int .i64 rc)),.d (.val (.int .i64 rf)),.d (.val (.int .i64 rst)),.d (.dl cells n none)],.d (.val (.int .i64 fr)),.d (.val (.int .i64 se))] [] (.d (.val (.int .i64 x))) [] rd:=by
 subst hrb hrc hrf hrst hc hn
 exact ⟨(),trivial,does_data (con105.2 (R,(fr,se)) x h) rfl⟩
theorem priceAt_v {l:List Pr1} {a x:Int} {cells:List DV} {n:Nat} (h:rating_priceAt (l,a)=some x) (hc:encL UP l=cells) (hn:l.length=n):∃c:Unit,True∧Does Try.prog noG 107 [.d (.dl cells n none),.d (.val (.int .i64 a))] [] (.d (.val (.int .i64 x))) [] rd:=by
 subst hc hn
 exact ⟨(),trivial,does_data (con107.2 (l,a) x h) rfl⟩
end
theorem getDd {α:Type} {l:List α} {i:Nat} (d:α) (h1:i<l.length):l.getD i d=l[i]:=by rw [List.getD_eq_getElem?_getD,List.getElem?_eq_getElem h1];rfl
theorem beg_o {rb:ByteArray} {rc rf rst at0 np:Int} {pcells:List DV} {pn:Nat}:DoesO Try.prog noG 106 [.agg [.d (.val (.string rb)),.d (.val (.int .i64 rc)),.d (.val (.int .i64 rf)),.d (.val (.int .i64 rst)),.d (.dl pcells pn none)],.d (.val (.int .i64 at0)),.d (.val (.int .i64 np))] []
 (.clo 126 [.ptr 7 0,.ptr 8 0,.ptr 9 0]) [(7,.mix [.d (.val (.int .i64 at0))]),(8,.mix [.d (.val (.int .i64 np))]),(9,.mix [.d (.val (.string rb)),.d (.val (.int .i64 rc)),.d (.val (.int .i64 rf)),.d (.val (.int .i64 rst)),.d (.dl pcells pn none)])]:=by
 refine does_p KK (fn:=Try.f106) Try.func106 rfl (by show 3≤_;decide) ?_
 intro C F p hC hF hp
 conv=>cbv
 exact back_obj [(7,1001),(8,1002),(9,1000)] rfl rfl ⟨⟨rfl,rfl,rfl⟩,⟨rfl,rfl,rfl⟩,⟨rfl,rfl,rfl⟩,trivial⟩ rfl rfl
theorem beg_v {rb:ByteArray} {rc rf rst at0 np:Int} {pcells:List DV} {pn:Nat} {rd:Nat→Option AO} (h7:rd 7=none) (h8:rd 8=none) (h9:rd 9=none):∃c:Unit,True∧Does Try.prog noG 106 [.agg [.d (.val (.string rb)),.d (.val (.int .i64 rc)),.d (.val (.int .i64 rf)),.d (.val (.int .i64 rst)),.d (.dl pcells pn none)],.d (.val (.int .i64 at0)),.d (.val (.int .i64 np))] [7,8,9]
 (.clo 126 [.ptr 7 0,.ptr 8 0,.ptr 9 0]) [(7,.mix [.d (.val (.int .i64 at0))]),(8,.mix [.d (.val (.int .i64 np))]),(9,.mix [.d (.val (.string rb)),.d (.val (.int .i64 rc)),.d (.val (.int .i64 rf)),.d (.val (.int .i64 rst)),.d (.dl pcells pn none)])] rd :=
 ⟨(),trivial,does_of_O beg_o (fun x hx=>by cases hx) rfl rfl (fun x hx=>by
   rcases List.mem_cons.1 hx with rfl | hx
   ·exact ⟨by simp,.inl h7⟩
   ·rcases List.mem_cons.1 hx with rfl | hx
    ·exact ⟨by simp,.inl h8⟩
    ·rcases List.mem_cons.1 hx with rfl | hx
     ·exact ⟨by simp,.inl h9⟩
     ·cases hx) rfl⟩
def stR (rb:ByteArray) (rc rf rst at0 np:Int) (pcells:List DV) (pn:Nat) (sum:Int):SL :=
 ⟨87,[(13,.ptr 5 0),(15,.ptr 6 0),(65,.clo 126 [.ptr 7 0,.ptr 8 0,.ptr 9 0])],
   [(5,.mix [.d (.val (.string rb)),.d (.val (.int .i64 rc)),.d (.val (.int .i64 rf)),.d (.val (.int .i64 rst)),.d (.dl pcells pn none)]),(6,.mix [.d (.val (.int .i64 sum))]),(7,.mix [.d (.val (.int .i64 at0))]),(8,.mix [.d (.val (.int .i64 np))]),(9,.mix [.d (.val (.string rb)),.d (.val (.int .i64 rc)),.d (.val (.int .i64 rf)),.d (.val (.int .i64 rst)),.d (.dl pcells pn none)])]⟩
theorem pre_ok {rs:List Ra} {fr:Int} {num:List UInt8} {a b:Int} {cells:List DV} {n:Nat} {nb:ByteArray} (hcr:encL UR rs=cells) (hnr:rs.length=n) (hnb:(⟨num.toArray⟩:ByteArray)=nb) (hV:rating_Valid (rs,fr)=some true)
 (h1:rating_within (a,(0,281474976710656))=some true) (h2:rating_within (b,(a,281474976710656))=some true) {se:Int} (h3:rating_Seconds (a,b)=some se) (h4:se≤1000000) {ix:Int} (hF:rating_Find ((rs,fr),num)=some (ix,true)) {i:Nat} (hix:ix=(i:Int)) (hin:i<n) {R:Ra} (hR:rs.getD i ([],(0,(0,(0,[]))))=R) {rb:ByteArray} {rc rf rst:Int} {pl:List Pr1} {pcells:List DV} {pn:Nat} (hrb:(⟨R.1.toArray⟩:ByteArray)=rb) (hrc:R.2.1=rc) (hrf:R.2.2.1=rf) (hrst:R.2.2.2.1=rst) (hcp:encL UP R.2.2.2.2=pcells) (hnp:R.2.2.2.2.length=pn)
 {np:Int} (hPi:rating_Pieces (R,(fr,se))=some np) (hnp0:np≠0) {at0:Int} (hat:at0=IntKind.wrap .i64 (a+IntKind.wrap .i64 (1000*fr)))
 {C:Cxt} {F:Ty} {p:Pr} (hC:C=cxtOf Try.prog noG 87 (lookF [])) (hF':F=tiOf Try.prog) (hp:p=real) :
 acodeNP p C (tabF F tyRows) noG (qOf cmpTypes) 87 (fun s=>Tells noG 87 (lookF []) s.S (stR rb rc rf rst at0 np pcells pn rc).S) (preC 11 (Try.f77.body.getD .skip)) (fun _ _=>False) ⟨87,argTm 0 [.agg [.d (.dl cells n none),.d (.val (.int .i64 fr))],.d (.val (.string nb)),.d (.val (.int .i64 a)),.d (.val (.int .i64 b))],[]⟩:=by
 have hemp:p.emp cells=false:=p_empL hp (by rw [←hcr,encL_length,hnr];show 0<n*5;omega)
 have hrow:p.cells cells (p.nm i 5) 5=some [.d (.val (.string rb)),.d (.val (.int .i64 rc)),.d (.val (.int .i64 rf)),.d (.val (.int .i64 rst)),.d (.dl pcells pn none)]:=by
  have hi:i<rs.length:=by omega
  rw [p_cellsF hp (f:=encU UR) (s:=5) (fun x=>encU_length UR x) hi hcr,←getDd ([],(0,(0,(0,[])))) hi,hR,←hrb,←hrc,←hrf,←hrst,←hcp,←hnp]
  rfl
 have eat:p.ar .add .i64 a (p.ar .mul .i64 1000 fr)=at0:=by rw [hp];exact hat.symm
 conv=>cbv
 refine call_E hC (by kernel_rfl) (valid_v hV hcr hnr) ?_;rintro _ _;refine ⟨by decide_cbv,?_⟩
 conv=>cbv
 refine call_E hC (by kernel_rfl) (within_v (by assumption)) ?_;rintro _ _;refine ⟨by decide_cbv,?_⟩
 conv=>cbv
 refine call_E hC (by kernel_rfl) (within_v (by assumption)) ?_;rintro _ _;refine ⟨by decide_cbv,?_⟩
 conv=>cbv
 refine call_E hC (by kernel_rfl) (seconds_v (by assumption)) ?_;rintro _ _;refine ⟨by decide_cbv,?_⟩
 conv=>cbv
 have e6:(p.cmp .gtr se 1000000)=false:=by rw [p_cmp_gtr hp];exact decide_eq_false (by omega)
 simp only [e6];clear e6
 conv=>cbv
 refine call_E hC (by kernel_rfl) (find_v hF hcr hnr hnb) ?_;rintro _ _;refine ⟨by decide_cbv,?_⟩
 conv=>cbv
 obtain ⟨j8,hj8,lj8,ej8⟩:=p_ixE (i:=ix) (n:=n) hp (by omega) (by omega)
 simp only [ej8]
 conv=>cbv
 simp only [hemp]
 conv=>cbv
 simp only [hemp]
 conv=>cbv
 obtain rfl:j8=i:=by omega
 simp only [hemp,hrow]
 conv=>cbv
 refine call_E hC (by kernel_rfl) (pieces_v hPi hrb hrc hrf hrst hcp hnp) ?_;rintro _ _;refine ⟨by decide_cbv,?_⟩
 conv=>cbv
 have e11:(p.cmp .eql np 0)=false:=by rw [p_cmp_eql hp];exact decide_eq_false (by omega)
 simp only [e11];clear e11
 conv=>cbv
 obtain ⟨z12,ez12⟩:∃z,(p.ar .mul .i64 1000 fr)=z:=⟨_,rfl⟩
 simp only [ez12]
 conv=>cbv
 obtain ⟨z13,ez13⟩:∃z,(p.ar .add .i64 a z12)=z:=⟨_,rfl⟩
 simp only [ez13]
 conv=>cbv
 refine call_E hC (by kernel_rfl) (beg_v rfl rfl rfl) ?_;rintro _ _;refine ⟨by decide_cbv,?_⟩
 conv=>cbv
 obtain rfl:z13=at0:=by rw [hat,←ez13,←ez12,hp];rfl
 exact tells_obj (tm:=(stR rb rc rf rst z13 np pcells pn rc).tm) (hp2:=(stR rb rc rf rst z13 np pcells pn rc).hp) [(5,2105),(6,2502),(7,7),(8,8),(9,9)] rfl rfl ⟨⟨rfl,rfl,rfl⟩,⟨rfl,rfl,rfl⟩,⟨rfl,rfl,rfl⟩,⟨rfl,rfl,rfl⟩,⟨rfl,rfl,rfl⟩,trivial⟩ ⟨rfl,rfl,rfl,rfl,rfl,rfl,trivial⟩
end Go.Proofs.Ytkpijdndakljjaa

namespace Go.Proofs.Ytkpijdndakljjaa
open Go.RowKit
set_option maxHeartbeats 4000000
set_option maxRecDepth 10000
def rfG:Code→Operand×Array Tmp×Code×Code
 | .seq (.seq _ (.block _ (.rangeFunc g ps a b))) _=>(g,ps,a,b)
 | _=>(.tmp 0,#[],.skip,.skip)
noncomputable abbrev costC:Code:=Try.f77.body.getD .skip
noncomputable abbrev asgC:Code:=(rfG (spine 11 costC).2).2.2.1
noncomputable abbrev bodC:Code:=(rfG (spine 11 costC).2).2.2.2
def stA (rb:ByteArray) (rc rf rst at0 np:Int) (pcells:List DV) (pn:Nat) (sum k ak:Int):SL :=
 {stR rb rc rf rst at0 np pcells pn sum with tm:=(67,.d (.val (.int .i64 ak)))::(66,.d (.val (.int .i64 k)))::(stR rb rc rf rst at0 np pcells pn sum).tm}
def stB (rb:ByteArray) (rc rf rst at0 np:Int) (pcells:List DV) (pn:Nat) (sum k ak:Int):SL :=
 {stR rb rc rf rst at0 np pcells pn sum with tm:=(17,.d (.val (.int .i64 ak)))::(16,.d (.val (.int .i64 k)))::(stA rb rc rf rst at0 np pcells pn sum k ak).tm}
theorem asg_ok {rb:ByteArray} {rc rf rst at0 np:Int} {pcells:List DV} {pn:Nat} {sum k ak:Int} {C:Cxt} {F:Ty} {p:Pr} :
 acodeP p C (tabF F tyRows) noG (qOf cmpTypes) 87 asgC (fun e s=>e = .normal∧s=stB rb rc rf rst at0 np pcells pn sum k ak) (stA rb rc rf rst at0 np pcells pn sum k ak):=by
 conv=>cbv
 trivial
theorem bod_ok {rb:ByteArray} {rc rf rst at0 np:Int} {pl:List Pr1} {pcells:List DV} {pn:Nat} {sum k ak:Int} (hcp:encL UP pl=pcells) (hnp:pl.length=pn) {j:Int} (hPa:rating_priceAt (pl,ak)=some j) {i:Nat} (hj:j=(i:Int)) (hi:i<pn)
 {d1 d2 d3 d4 d5:Int} (hrow:pl.getD i ((0,(0,0)),(0,0))=((d1,(d2,d3)),(d4,d5))) (hk:0≤k) {hp0:Nat→Option AO} {sum':Int} (hs:sum'=IntKind.wrap .i64 (sum+(if k=0 then d4 else d5)))
 {C:Cxt} {F:Ty} {p:Pr} (hC:C=cxtOf Try.prog noG 87 hp0) (hF':F=tiOf Try.prog) (hp:p=real) :
 acodeP p C (tabF F tyRows) noG (qOf cmpTypes) 87 bodC (fun e s=>e = .normal∧Tells noG 87 (lookF []) ({s with tm:=(stR rb rc rf rst at0 np pcells pn sum).tm}:SL).S (stR rb rc rf rst at0 np pcells pn sum').S) (stB rb rc rf rst at0 np pcells pn sum k ak):=by
 have hemp:p.emp pcells=false:=p_empL hp (by rw [←hcp,encL_length,hnp];show 0<pn*5;omega)
 have hrw:p.cells pcells (p.nm i 5) 5=some [.d (.val (.int .u8 d1)),.d (.val (.int .i64 d2)),.d (.val (.int .i64 d3)),.d (.val (.int .i64 d4)),.d (.val (.int .i64 d5))]:=by
  have hi':i<pl.length:=by omega
  rw [p_cellsF hp (f:=encU UP) (s:=5) (fun x=>encU_length UP x) hi' hcp,←getDd ((0,(0,0)),(0,0)) hi',hrow]
  rfl
 by_cases hk0:k=0
 ·rw [if_pos hk0] at hs
  have ead:p.ar .add .i64 sum d4=sum':=by rw [hp];exact hs.symm
  conv=>cbv
  refine call_E hC (by kernel_rfl) (priceAt_v hPa hcp hnp) ?_;rintro _ _;refine ⟨by decide_cbv,?_⟩
  conv=>cbv
  obtain ⟨j2,hj2,lj2,ej2⟩:=p_ixE (i:=j) (n:=pn) hp (by omega) (by omega)
  simp only [ej2]
  conv=>cbv
  simp only [hemp]
  conv=>cbv
  simp only [hemp]
  conv=>cbv
  obtain rfl:i=j2:=by omega
  simp only [hrw]
  conv=>cbv
  have e3:(p.cmp .eql k 0)=true:=by rw [p_cmp_eql hp];exact decide_eq_true (by omega)
  simp only [e3];clear e3
  conv=>cbv
  simp only [ead]
  exact tells_obj (tm:=(stR rb rc rf rst at0 np pcells pn sum').tm) (hp2:=(stR rb rc rf rst at0 np pcells pn sum').hp) [(5,5),(6,6),(7,7),(8,8),(9,9)] rfl rfl ⟨⟨rfl,rfl,rfl⟩,⟨rfl,rfl,rfl⟩,⟨rfl,rfl,rfl⟩,⟨rfl,rfl,rfl⟩,⟨rfl,rfl,rfl⟩,trivial⟩ ⟨rfl,rfl,rfl,rfl,rfl,rfl,trivial⟩
 ·rw [if_neg hk0] at hs
  have ead:p.ar .add .i64 sum d5=sum':=by rw [hp];exact hs.symm
  conv=>cbv
  refine call_E hC (by kernel_rfl) (priceAt_v hPa hcp hnp) ?_;rintro _ _;refine ⟨by decide_cbv,?_⟩
  conv=>cbv
  obtain ⟨j5,hj5,lj5,ej5⟩:=p_ixE (i:=j) (n:=pn) hp (by omega) (by omega)
  simp only [ej5]
  conv=>cbv
  simp only [hemp]
  conv=>cbv
  simp only [hemp]
  conv=>cbv
  obtain rfl:i=j5:=by omega
  simp only [hrw]
  conv=>cbv
  have e7:(p.cmp .eql k 0)=false:=by rw [p_cmp_eql hp];exact decide_eq_false (by omega)
  simp only [e7];clear e7
  conv=>cbv
  simp only [ead]
  exact tells_obj (tm:=(stR rb rc rf rst at0 np pcells pn sum').tm) (hp2:=(stR rb rc rf rst at0 np pcells pn sum').hp) [(5,5),(6,6),(7,7),(8,8),(9,9)] rfl rfl ⟨⟨rfl,rfl,rfl⟩,⟨rfl,rfl,rfl⟩,⟨rfl,rfl,rfl⟩,⟨rfl,rfl,rfl⟩,⟨rfl,rfl,rfl⟩,trivial⟩ ⟨rfl,rfl,rfl,rfl,rfl,rfl,trivial⟩
noncomputable abbrev posC:Code:=match (spine 11 costC).2 with | .seq _ c=>c | _ => .skip
theorem post_ok {rb:ByteArray} {rc rf rst at0 np:Int} {pcells:List DV} {pn:Nat} {sum:Int} {C:Cxt} {F:Ty} {p:Pr} :
 acodeP p C (tabF F tyRows) noG (qOf cmpTypes) 87 posC (retQ (tabF F tyRows) Try.f77 [] (.tup [.d (.val (.int .i64 sum)),.d (.val (.int .u8 0))]) []) (stR rb rc rf rst at0 np pcells pn sum):=by
 conv=>cbv
 exact back_same rfl
theorem cost_e1 {rs:List Ra} {fr:Int} {num:List UInt8} {a b:Int} {cells:List DV} {n:Nat} {nb:ByteArray} (hcr:encL UR rs=cells) (hnr:rs.length=n) (hnb:(⟨num.toArray⟩:ByteArray)=nb) (hV:rating_Valid (rs,fr)=some false):DoesO Try.prog noG 77 [.agg [.d (.dl cells n none),.d (.val (.int .i64 fr))],.d (.val (.string nb)),.d (.val (.int .i64 a)),.d (.val (.int .i64 b))] [] (.tup [.d (.val (.int .i64 0)),.d (.val (.int .u8 2))]) []:=by
 refine does_p KK (fn:=Try.f77) Try.func77 rfl (by show 4≤_;decide) ?_
 intro C F p hC hF' hp
 conv=>cbv
 refine call_E hC (by kernel_rfl) (valid_v hV hcr hnr) ?_;rintro _ _;refine ⟨by decide_cbv,?_⟩
 conv=>cbv
 exact back_same rfl
theorem cost_e2 {rs:List Ra} {fr:Int} {num:List UInt8} {a b:Int} {cells:List DV} {n:Nat} {nb:ByteArray} (hcr:encL UR rs=cells) (hnr:rs.length=n) (hnb:(⟨num.toArray⟩:ByteArray)=nb) (hV:rating_Valid (rs,fr)=some true) (h1:rating_within (a,(0,281474976710656))=some false):DoesO Try.prog noG 77 [.agg [.d (.dl cells n none),.d (.val (.int .i64 fr))],.d (.val (.string nb)),.d (.val (.int .i64 a)),.d (.val (.int .i64 b))] [] (.tup [.d (.val (.int .i64 0)),.d (.val (.int .u8 3))]) []:=by
 refine does_p KK (fn:=Try.f77) Try.func77 rfl (by show 4≤_;decide) ?_
 intro C F p hC hF' hp
 conv=>cbv
 refine call_E hC (by kernel_rfl) (valid_v hV hcr hnr) ?_;rintro _ _;refine ⟨by decide_cbv,?_⟩
 conv=>cbv
 refine call_E hC (by kernel_rfl) (within_v (by assumption)) ?_;rintro _ _;refine ⟨by decide_cbv,?_⟩
 conv=>cbv
 exact back_same rfl
theorem cost_e3 {rs:List Ra} {fr:Int} {num:List UInt8} {a b:Int} {cells:List DV} {n:Nat} {nb:ByteArray} (hcr:encL UR rs=cells) (hnr:rs.length=n) (hnb:(⟨num.toArray⟩:ByteArray)=nb) (hV:rating_Valid (rs,fr)=some true) (h1:rating_within (a,(0,281474976710656))=some true) (h2:rating_within (b,(a,281474976710656))=some false):DoesO Try.prog noG 77 [.agg [.d (.dl cells n none),.d (.val (.int .i64 fr))],.d (.val (.string nb)),.d (.val (.int .i64 a)),.d (.val (.int .i64 b))] [] (.tup [.d (.val (.int .i64 0)),.d (.val (.int .u8 3))]) []:=by
 refine does_p KK (fn:=Try.f77) Try.func77 rfl (by show 4≤_;decide) ?_
 intro C F p hC hF' hp
 conv=>cbv
 refine call_E hC (by kernel_rfl) (valid_v hV hcr hnr) ?_;rintro _ _;refine ⟨by decide_cbv,?_⟩
 conv=>cbv
 refine call_E hC (by kernel_rfl) (within_v (by assumption)) ?_;rintro _ _;refine ⟨by decide_cbv,?_⟩
 conv=>cbv
 refine call_E hC (by kernel_rfl) (within_v (by assumption)) ?_;rintro _ _;refine ⟨by decide_cbv,?_⟩
 conv=>cbv
 exact back_same rfl
theorem cost_e4 {rs:List Ra} {fr:Int} {num:List UInt8} {a b:Int} {cells:List DV} {n:Nat} {nb:ByteArray} (hcr:encL UR rs=cells) (hnr:rs.length=n) (hnb:(⟨num.toArray⟩:ByteArray)=nb) (hV:rating_Valid (rs,fr)=some true) (h1:rating_within (a,(0,281474976710656))=some true) (h2:rating_within (b,(a,281474976710656))=some true) {se:Int} (h3:rating_Seconds (a,b)=some se) (h4:se > 1000000):DoesO Try.prog noG 77 [.agg [.d (.dl cells n none),.d (.val (.int .i64 fr))],.d (.val (.string nb)),.d (.val (.int .i64 a)),.d (.val (.int .i64 b))] [] (.tup [.d (.val (.int .i64 0)),.d (.val (.int .u8 4))]) []:=by
 refine does_p KK (fn:=Try.f77) Try.func77 rfl (by show 4≤_;decide) ?_
 intro C F p hC hF' hp
 conv=>cbv
 refine call_E hC (by kernel_rfl) (valid_v hV hcr hnr) ?_;rintro _ _;refine ⟨by decide_cbv,?_⟩
 conv=>cbv
 refine call_E hC (by kernel_rfl) (within_v (by assumption)) ?_;rintro _ _;refine ⟨by decide_cbv,?_⟩
 conv=>cbv
 refine call_E hC (by kernel_rfl) (within_v (by assumption)) ?_;rintro _ _;refine ⟨by decide_cbv,?_⟩
 conv=>cbv
 refine call_E hC (by kernel_rfl) (seconds_v (by assumption)) ?_;rintro _ _;refine ⟨by decide_cbv,?_⟩
 conv=>cbv
 have e18:(p.cmp .gtr se 1000000)=true:=by rw [p_cmp_gtr hp];exact decide_eq_true (by omega)
 simp only [e18];clear e18
 conv=>cbv
 exact back_same rfl
theorem cost_e5 {rs:List Ra} {fr:Int} {num:List UInt8} {a b:Int} {cells:List DV} {n:Nat} {nb:ByteArray} (hcr:encL UR rs=cells) (hnr:rs.length=n) (hnb:(⟨num.toArray⟩:ByteArray)=nb) (hV:rating_Valid (rs,fr)=some true) (h1:rating_within (a,(0,281474976710656))=some true) (h2:rating_within (b,(a,281474976710656))=some true) {se:Int} (h3:rating_Seconds (a,b)=some se) (h4:se≤1000000) {ix:Int} (hF:rating_Find ((rs,fr),num)=some (ix,false)):DoesO Try.prog noG 77 [.agg [.d (.dl cells n none),.d (.val (.int .i64 fr))],.d (.val (.string nb)),.d (.val (.int .i64 a)),.d (.val (.int .i64 b))] [] (.tup [.d (.val (.int .i64 0)),.d (.val (.int .u8 8))]) []:=by
 refine does_p KK (fn:=Try.f77) Try.func77 rfl (by show 4≤_;decide) ?_
 intro C F p hC hF' hp
 conv=>cbv
 refine call_E hC (by kernel_rfl) (valid_v hV hcr hnr) ?_;rintro _ _;refine ⟨by decide_cbv,?_⟩
 conv=>cbv
 refine call_E hC (by kernel_rfl) (within_v (by assumption)) ?_;rintro _ _;refine ⟨by decide_cbv,?_⟩
 conv=>cbv
 refine call_E hC (by kernel_rfl) (within_v (by assumption)) ?_;rintro _ _;refine ⟨by decide_cbv,?_⟩
 conv=>cbv
 refine call_E hC (by kernel_rfl) (seconds_v (by assumption)) ?_;rintro _ _;refine ⟨by decide_cbv,?_⟩
 conv=>cbv
 have e24:(p.cmp .gtr se 1000000)=false:=by rw [p_cmp_gtr hp];exact decide_eq_false (by omega)
 simp only [e24];clear e24
 conv=>cbv
 refine call_E hC (by kernel_rfl) (find_v hF hcr hnr hnb) ?_;rintro _ _;refine ⟨by decide_cbv,?_⟩
 conv=>cbv
 exact back_same rfl
theorem cost_e6 {rs:List Ra} {fr:Int} {num:List UInt8} {a b:Int} {cells:List DV} {n:Nat} {nb:ByteArray} (hcr:encL UR rs=cells) (hnr:rs.length=n) (hnb:(⟨num.toArray⟩:ByteArray)=nb) (hV:rating_Valid (rs,fr)=some true) (h1:rating_within (a,(0,281474976710656))=some true) (h2:rating_within (b,(a,281474976710656))=some true) {se:Int} (h3:rating_Seconds (a,b)=some se) (h4:se≤1000000) {ix:Int} (hF:rating_Find ((rs,fr),num)=some (ix,true)) {i:Nat} (hix:ix=(i:Int)) (hin:i<n) {R:Ra} (hR:rs.getD i ([],(0,(0,(0,[]))))=R) {rb:ByteArray} {rc rf rst:Int} {pcells:List DV} {pn:Nat} (hrb:(⟨R.1.toArray⟩:ByteArray)=rb) (hrc:R.2.1=rc) (hrf:R.2.2.1=rf) (hrst:R.2.2.2.1=rst) (hcp:encL UP R.2.2.2.2=pcells) (hnp:R.2.2.2.2.length=pn)
 {np:Int} (hPi:rating_Pieces (R,(fr,se))=some np) (hnp0:np=0):DoesO Try.prog noG 77 [.agg [.d (.dl cells n none),.d (.val (.int .i64 fr))],.d (.val (.string nb)),.d (.val (.int .i64 a)),.d (.val (.int .i64 b))] [] (.tup [.d (.val (.int .i64 0)),.d (.val (.int .u8 0))]) []:=by
 refine does_p KK (fn:=Try.f77) Try.func77 rfl (by show 4≤_;decide) ?_
 intro C F p hC hF' hp
 have hemp:p.emp cells=false:=p_empL hp (by rw [←hcr,encL_length,hnr];show 0<n*5;omega)
 have hrow:p.cells cells (p.nm i 5) 5=some [.d (.val (.string rb)),.d (.val (.int .i64 rc)),.d (.val (.int .i64 rf)),.d (.val (.int .i64 rst)),.d (.dl pcells pn none)]:=by
  have hi:i<rs.length:=by omega
  rw [p_cellsF hp (f:=encU UR) (s:=5) (fun x=>encU_length UR x) hi hcr,←getDd ([],(0,(0,(0,[])))) hi,hR,←hrb,←hrc,←hrf,←hrst,←hcp,←hnp]
  rfl
 conv=>cbv
 refine call_E hC (by kernel_rfl) (valid_v hV hcr hnr) ?_;rintro _ _;refine ⟨by decide_cbv,?_⟩
 conv=>cbv
 refine call_E hC (by kernel_rfl) (within_v (by assumption)) ?_;rintro _ _;refine ⟨by decide_cbv,?_⟩
 conv=>cbv
 refine call_E hC (by kernel_rfl) (within_v (by assumption)) ?_;rintro _ _;refine ⟨by decide_cbv,?_⟩
 conv=>cbv
 refine call_E hC (by kernel_rfl) (seconds_v (by assumption)) ?_;rintro _ _;refine ⟨by decide_cbv,?_⟩
 conv=>cbv
 have e31:(p.cmp .gtr se 1000000)=false:=by rw [p_cmp_gtr hp];exact decide_eq_false (by omega)
 simp only [e31];clear e31
 conv=>cbv
 refine call_E hC (by kernel_rfl) (find_v hF hcr hnr hnb) ?_;rintro _ _;refine ⟨by decide_cbv,?_⟩
 conv=>cbv
 obtain ⟨j33,hj33,lj33,ej33⟩:=p_ixE (i:=ix) (n:=n) hp (by omega) (by omega)
 simp only [ej33]
 conv=>cbv
 simp only [hemp]
 conv=>cbv
 simp only [hemp]
 conv=>cbv
 obtain rfl:j33=i:=by omega
 simp only [hemp,hrow]
 conv=>cbv
 refine call_E hC (by kernel_rfl) (pieces_v hPi hrb hrc hrf hrst hcp hnp) ?_;rintro _ _;refine ⟨by decide_cbv,?_⟩
 conv=>cbv
 have e35:(p.cmp .eql np 0)=true:=by rw [p_cmp_eql hp];exact decide_eq_true (by omega)
 simp only [e35];clear e35
 conv=>cbv
 exact back_same rfl
end Go.Proofs.Ytkpijdndakljjaa

namespace Go.Proofs.Ytkpijdndakljjaa
open Go.RowKit
set_option maxRecDepth 100000
theorem relC_kp {h h':Array Obj} {X:Nat→Prop} (hc:∀b o u,cellH h b o=some u→cellH h' b o=some u):∀(cells:List DV) (b o:Nat),RelC h X cells b o→RelC h' X cells b o
 | [],b,o,_=>by rw [RelC];trivial
 | x::xs,b,o,hr=>by
   rw [RelC] at hr ⊢
   obtain ⟨⟨u,h1,h2⟩,h3⟩:=hr
   exact ⟨⟨u,hc _ _ _ h1,RelD.mono (fun b o u hx hu=>⟨hx,hc b o u hu⟩) x u h2⟩,relC_kp hc xs b (o+1) h3⟩
def NC (h:Array Obj) (k:Nat):Prop:=∃o,h[k]? = some o∧o.isCells=false∧o.isWalk=false
theorem rebase {N:Nat} {E0:En} {w0:World} {E:En} {a:Act} {w:World} {s:S} {w':World} (hS:Sim noG N E a w s) (hA:Along E0 w0 E w) (h1:w'.os=w.os) (h2:w'.tape=w.tape) (h3:w'.output=w.output) (h4:w.heap.size≤w'.heap.size)
 (hb:∀k,k<w.heap.size→w'.heap[k]? = w.heap[k]? ∨ (w0.heap.size≤k∧NC w.heap k)):Sim noG N {E with h:=w'.heap} a w' s∧Along E0 w0 {E with h:=w'.heap} w'∧Ext E {E with h:=w'.heap}:=by
 have hE:E.h=w.heap:=hS.h.symm
 have hc:∀b o u,cellH E.h b o=some u→cellH w'.heap b o=some u:=fun b o u hu=>by
  have hlt:=cellH_lt hu
  rw [hE] at hlt hu
  rcases hb b hlt with e | ⟨_,o',ho,hn,_⟩
  ·unfold cellH at hu ⊢;rw [e];exact hu
  ·unfold cellH at hu
   rw [ho] at hu
   cases o'<;>first | (simp [Obj.isCells] at hn;done) | (cases hu;done)
 have ho:∀(b:Nat) (o:Obj),E.h[b]? = some o→(o.isCells=true∨o.isWalk=true)→w'.heap[b]? = some o:=fun b o hbo hk=>by
  rw [hE] at hbo
  rcases hb b (Array.getElem?_eq_some_iff.1 hbo).1 with e | ⟨_,o',ho',k1,k2⟩
  ·rw [e];exact hbo
  ·rw [hbo] at ho';cases ho'
   rcases hk with k | k
   ·rw [k1] at k;cases k
   ·rw [k2] at k;cases k
 have hx:Ext E {E with h:=w'.heap}:=⟨fun b o u hx hu=>⟨hx,hc b o u hu⟩,fun r o h=>⟨o,h,o.like_refl,.inr rfl⟩⟩
 refine ⟨⟨rfl,hS.hp,⟨fun r o hr => ?_,hS.sim.inj,fun g cells hg=>by cases hg⟩,hS.n,hS.df,fun t=>Rel.ext hx _ _ (hS.tm t)⟩,⟨hA.ext.trans hx,?_⟩,hx⟩
 ·have:=hS.sim.ob r o hr
  cases o with
  | data e s cs mt =>
    rcases this with ⟨q1,q2⟩ | ⟨b,cur,q1,q2,q3,q4,q5,q6⟩
    ·exact .inl ⟨q1,q2⟩
    ·exact .inr ⟨b,cur,q1,ho b _ q2 (.inl rfl),relC_kp hc _ _ _ q3,q4,q5,q6⟩
  | mix cs =>
    obtain ⟨b,cur,t,q1,q2,q3,q4⟩:=this
    exact ⟨b,cur,t,q1,ho b _ q2 (.inl rfl),RelL.ext hx _ _ q3,q4⟩
  | mp ks =>
    obtain ⟨b,es,clock,q1,q2,q3,q4⟩:=this
    exact ⟨b,es,clock,q1,ho b _ q2 (.inr rfl),q3,q4⟩
  | dead=>trivial
 ·have f:=hA.fr
  refine ⟨h1.trans f.os,h2.trans f.tape,h3.trans f.output,Nat.le_trans f.size h4,fun k hk hm => ?_,f.mb,f.xs,f.xk⟩
  rcases hb k (Nat.lt_of_lt_of_le hk f.size) with e | ⟨ge,_⟩
  ·rw [e];exact f.blk k hk hm
  ·omega
theorem nc_mut {N:Nat} {E:En} {a:Act} {w:World} {s:S} (hS:Sim noG N E a w s) {k:Nat} (hn:NC w.heap k):¬MutB E k:=by
 rintro ⟨r,o,z,h1,h2,h3⟩
 obtain ⟨o',ho',k1,k2⟩:=hn
 have hE:E.h=w.heap:=hS.h.symm
 have:=hS.sim.ob r o h1
 cases o with
 | data e s cs mt =>
   rcases this with ⟨q1,q2⟩ | ⟨b,cur,q1,q2,_⟩
   ·rw [q1] at h3;cases h3
   ·rw [q1] at h3;cases h3
    rw [hE,ho'] at q2;cases q2;cases k1
 | mix cs =>
   obtain ⟨b,cur,t,q1,q2,_⟩:=this
   rw [q1] at h3;cases h3
   rw [hE,ho'] at q2;cases q2;cases k1
 | mp ks =>
   obtain ⟨b,es,clock,q1,q2,_⟩:=this
   rw [q1] at h3;cases h3
   rw [hE,ho'] at q2;cases q2;cases k2
 | dead=>cases h2
theorem Along.trans {E0 E1 E2:En} {w0 w1 w2:World} (h:Along E0 w0 E1 w1) (k:Along E1 w1 E2 w2):Along E0 w0 E2 w2:=⟨h.ext.trans k.ext,h.fr.trans k.fr⟩
theorem nc_keep {N:Nat} {E E':En} {a:Act} {w w':World} {s:S} (hS:Sim noG N E a w s) (hA:Along E w E' w') {k:Nat} {o:Obj} (h:w.heap[k]? = some o) (h1:o.isCells=false) (h2:o.isWalk=false):w'.heap[k]? = some o:=by
 rw [hA.fr.blk k (Array.getElem?_eq_some_iff.1 h).1 (nc_mut hS ⟨o,h,h1,h2⟩)];exact h
theorem put_keep {w0 w:World} {l:Nat} {o o':Obj} (h0:w0.heap.size≤l) (h:w.heap[l]? = some o) (h1:o.isCells=false) (h2:o.isWalk=false):∀k,k<w.heap.size→(w.putObj l o').heap[k]? = w.heap[k]? ∨ (w0.heap.size≤k∧NC w.heap k):=fun k hk=>by
 by_cases e:k=l
 ·subst e;exact .inr ⟨h0,o,h,h1,h2⟩
 ·exact .inl (World.putObj_heap_other e)
noncomputable def recL (fn:FuncId) (tm:Array Value) (D:Nat) (st:LoopState) (pe:Option Code):Loop:={state:=st,pending:=pe,fn:=fn,tmps:=tm,params := #[66,67],assign:=asgC,body:=bodC,defers:=D}
noncomputable def sumN (l:List Pr1) (rc:Int) (bg:Nat→Int):Nat→Option Int
 | 0=>some rc
 | k+1=>bindO (sumN l rc bg k) fun s=>bindO (rating_priceAt (l,bg k)) fun j =>
   bif decide (0≤j∧j<(l.length:Int)) then some (IntKind.wrap .i64 (s+(if (k:Int)=0 then (l.getD j.toNat ((0,(0,0)),(0,0))).2.1 else (l.getD j.toNat ((0,(0,0)),(0,0))).2.2))) else none
theorem sumN_succ {l:List Pr1} {rc:Int} {bg:Nat→Int} {k:Nat} {s':Int} (h:sumN l rc bg (k+1)=some s'):∃s j,sumN l rc bg k=some s∧rating_priceAt (l,bg k)=some j∧0≤j∧j<(l.length:Int) ∧
 s'=IntKind.wrap .i64 (s+(if (k:Int)=0 then (l.getD j.toNat ((0,(0,0)),(0,0))).2.1 else (l.getD j.toNat ((0,(0,0)),(0,0))).2.2)):=by
 unfold sumN at h
 cases h1:sumN l rc bg k with
 | none=>rw [h1] at h;cases h
 | some s =>
   rw [h1] at h
   simp only [bindO_some] at h
   cases h2:rating_priceAt (l,bg k) with
   | none=>rw [h2] at h;cases h
   | some j =>
     rw [h2] at h
     simp only [bindO_some] at h
     by_cases hj:0≤j∧j<(l.length:Int)
     ·rw [decide_eq_true hj] at h
      cases h
      exact ⟨s,j,rfl,rfl,hj.1,hj.2,rfl⟩
     ·rw [decide_eq_false hj] at h
      cases h
theorem sumN_le {l:List Pr1} {rc:Int} {bg:Nat→Int}:∀ {n:Nat} {s:Int},sumN l rc bg n=some s→∀k,k≤n→∃t,sumN l rc bg k=some t
 | 0,s,h,k,hk=>⟨s,by rw [show k=0 from by omega];exact h⟩
 | n+1,s,h,k,hk=>by
   by_cases e:k=n+1
   ·subst e;exact ⟨s,h⟩
   ·obtain ⟨t,_,ht,_⟩:=sumN_succ h
    exact sumN_le ht k (by omega)
section
variable {rb:ByteArray} {rc rf rst at0 np:Int} {pl:List Pr1} {pcells:List DV} {pn:Nat} {E0:En} {w0:World} {tm:Array Value} {D L:Nat} {fn:FuncId}
def InvR (rb:ByteArray) (rc rf rst at0 np:Int) (pl:List Pr1) (pcells:List DV) (pn:Nat) (E0:En) (w0:World) (tm:Array Value) (D L:Nat) (fn:FuncId) (k:Nat) (W:World):Prop :=
 ∃E s,sumN pl rc (begN at0 rf rst) k=some s∧Sim noG 87 E ⟨tm,[]⟩ W (stR rb rc rf rst at0 np pcells pn s).S∧Along E0 w0 E W∧W.heap[D]? = some (.deferred (some []))∧W.heap[L]? = some (.loop (recL fn tm D .ready none))
theorem rel_i {E:En} {k:IntKind} {v:Int}:Rel E (.d (.val (.int k v))) (.int k v):=by rw [Rel,RelD];exact ⟨rfl,rfl⟩
set_option maxHeartbeats 1000000 in
theorem round_in (h0:E0.hp=lookF []) (hcp:encL UP pl=pcells) (hnp:pl.length=pn) (hD:w0.heap.size≤D) (hL:w0.heap.size≤L) (hDL:D≠L) {k:Nat} {W:World} (hI:InvR rb rc rf rst at0 np pl pcells pn E0 w0 tm D L fn k W) {s':Int} (hs':sumN pl rc (begN at0 rf rst) (k+1)=some s') (m:Nat) :
 YieldAt Fence.wide m Try.prog L #[.int .i64 k,.int .i64 (begN at0 rf rst k)] W fun e W'=>e = .returned (.bool true)∧InvR rb rc rf rst at0 np pl pcells pn E0 w0 tm D L fn (k+1) W':=by
 obtain ⟨E,s,hs,hS,hA,hDo,hLo⟩:=hI
 obtain ⟨s1,j,hs1,hj,hj0,hj1,e1⟩:=sumN_succ hs'
 rw [hs] at hs1
 obtain rfl:s=s1:=by cases hs1;rfl
 have hy:=run_yield (P:=Try.prog) (args := #[.int .i64 k,.int .i64 (begN at0 rf rst k)]) hLo rfl
 refine ⟨_,_,_,_,hy,roundIn_of_wpIn trivial ?_⟩
 have q1:SimD [] noG 87 E ((⟨tm,[]⟩:Act).put (some 66) (.int .i64 k)) W ({stR rb rc rf rst at0 np pcells pn s with tm:=(66,.d (.val (.int .i64 k)))::(stR rb rc rf rst at0 np pcells pn s).tm}:SL).S:=by
  have:=(⟨hS,rfl⟩:SimD [] noG 87 E ⟨tm,[]⟩ W (stR rb rc rf rst at0 np pcells pn s).S).put (Goes.refl hS.h hS.sim) (d:=some 66) (fun t e=>by cases e;decide) (v := .d (.val (.int .i64 k))) (u := .int .i64 k) rel_i
  have e:=SL.app_S (stR rb rc rf rst at0 np pcells pn s) (some 66) ⟨.d (.val (.int .i64 k)),[],[],[],[]⟩
  exact e▸this
 have q2:SimD [] noG 87 E (((⟨tm,[]⟩:Act).put (some 66) (.int .i64 k)).put (some 67) (.int .i64 (begN at0 rf rst k))) W (stA rb rc rf rst at0 np pcells pn s k (begN at0 rf rst k)).S:=by
  have:=q1.put (Goes.refl hS.h hS.sim) (d:=some 67) (fun t e=>by cases e;decide) (v := .d (.val (.int .i64 (begN at0 rf rst k)))) (u := .int .i64 (begN at0 rf rst k)) rel_i
  have e:=SL.app_S ({stR rb rc rf rst at0 np pcells pn s with tm:=(66,.d (.val (.int .i64 k)))::(stR rb rc rf rst at0 np pcells pn s).tm}:SL) (some 67) ⟨.d (.val (.int .i64 (begN at0 rf rst k))),[],[],[],[]⟩
  exact e▸this
 have hA1:=acode_soundI (df:=[]) (hp0:=E.hp) (wideR Try.prog L) m KK.hq KK.hdp KK.hm KK.hT asgC (fun e t=>e = .normal∧t=stB rb rc rf rst at0 np pcells pn s k (begN at0 rf rst k)) (stA rb rc rf rst at0 np pcells pn s k (begN at0 rf rst k)) (by kernel_rfl) (by rw [←acodeP_real];exact asg_ok)
 have hact:({tmps:=((#[66,67]:Array Tmp).zip #[Value.int .i64 k,.int .i64 (begN at0 rf rst k)]).foldl (fun tmps (t,a)=>tmps.setIfInBounds t a) tm,defers:=[]}:Act)=((⟨tm,[]⟩:Act).put (some 66) (.int .i64 k)).put (some 67) (.int .i64 (begN at0 rf rst k)):=by simp [Act.put]
 rw [←hact] at q2
 refine wpIn_mono (hA1 E W E _ W rfl q2 (Along.refl _ _)) ?_
 rintro e a1 w1 ⟨_,E1,⟨sl,rfl,rfl,rfl⟩,hS2,hA2⟩
 have hD1:=nc_keep hS hA2 hDo rfl rfl
 have hL1:=nc_keep hS hA2 hLo rfl rfl
 have hL1lt:=(Array.getElem?_eq_some_iff.1 hL1).1
 refine ⟨_,run_beginRound hL1 rfl,?_⟩
 obtain ⟨hS3,hA3,hx3⟩:=rebase (w':=w1.putObj L (.loop {recL fn tm D .ready none with state := .busy})) hS2.sm (hA.trans hA2) rfl rfl rfl (by simp) (put_keep hL hL1 rfl rfl)
 have hD2:(w1.putObj L (.loop {recL fn tm D .ready none with state := .busy})).heap[D]? = some (.deferred (some [])):=(World.putObj_heap_other hDL).trans hD1
 have hL2:(w1.putObj L (.loop {recL fn tm D .ready none with state := .busy})).heap[L]? = some (.loop {recL fn tm D .ready none with state := .busy}):=World.putObj_heap_same hL1lt
 generalize w1.putObj L (.loop {recL fn tm D .ready none with state := .busy})=w2 at *
 obtain ⟨i,hi⟩:∃i:Nat,j=(i:Int):=⟨j.toNat,by omega⟩
 obtain ⟨⟨⟨d1,d2,d3⟩,d4,d5⟩,hrow⟩:∃x,pl.getD i ((0,(0,0)),(0,0))=x:=⟨_,rfl⟩
 have e2:s'=IntKind.wrap .i64 (s+(if (k:Int)=0 then d4 else d5)):=by rw [e1,hi,Int.toNat_natCast,hrow]
 have hA4:=acode_soundI (df:=[]) (hp0:=E1.hp) (wideR Try.prog L) m KK.hq KK.hdp KK.hm KK.hT bodC (fun e t=>e = .normal∧Tells noG 87 (lookF []) ({t with tm:=(stR rb rc rf rst at0 np pcells pn s).tm}:SL).S (stR rb rc rf rst at0 np pcells pn s').S) (stB rb rc rf rst at0 np pcells pn s k (begN at0 rf rst k)) (by kernel_rfl)
  (by rw [←acodeP_real];exact bod_ok hcp hnp hj hi (by omega) hrow (by omega) e2 rfl rfl rfl)
 refine wpIn_mono (hA4 {E1 with h:=w2.heap} w2 {E1 with h:=w2.heap} a1 w2 rfl ⟨hS3,hS2.dq⟩ (Along.refl _ _)) ?_
 rintro e a3 w3 ⟨_,E3,⟨sl,rfl,rfl,hT⟩,hS4,hA5⟩
 have hD3:=nc_keep hS3 hA5 hD2 rfl rfl
 have hL3:=nc_keep hS3 hA5 hL2 rfl rfl
 have hL3lt:=(Array.getElem?_eq_some_iff.1 hL3).1
 refine ⟨_,_,run_endRound none hL3,rfl,?_⟩
 have hS5:Sim noG 87 E3 ⟨tm,[]⟩ w3 ({sl with tm:=(stR rb rc rf rst at0 np pcells pn s).tm}:SL).S:=⟨hS4.sm.h,hS4.sm.hp,hS4.sm.sim,hS.n,rfl,fun t=>Rel.ext ((hA2.ext.trans hx3).trans hA5.ext) _ _ (hS.tm t)⟩
 obtain ⟨E4,hS6,hA6⟩:=hT E0 w0 E3 _ w3 h0 hS5 (hA3.trans hA5)
 obtain ⟨hS7,hA7,_⟩:=rebase (w':=w3.putObj L (.loop (recL fn tm D .ready none))) hS6 hA6 rfl rfl rfl (by simp) (put_keep hL hL3 rfl rfl)
 exact ⟨_,s',hs',hS7,hA7,(World.putObj_heap_other hDL).trans hD3,World.putObj_heap_same hL3lt⟩
end
end Go.Proofs.Ytkpijdndakljjaa

namespace Go.Proofs.Ytkpijdndakljjaa
open Go.RowKit
set_option maxRecDepth 100000
theorem rel_ptrQ {E:En} {r off:Nat} {cs:List AV} {v:Value} (h:E.hp r=some (.mix cs)) (hr:Rel E (.ptr r off) v):∃b z,E.m r=some (b,z)∧v = .pointer (some ⟨b,off,none⟩):=by
 rw [Rel,h] at hr
 exact hr
theorem rel_vi {E:En} {k:IntKind} {n:Int} {u:Value} (h:Rel E (.d (.val (.int k n))) u):u = .int k n:=by
 rw [Rel,RelD] at h
 exact h.1
theorem relL_consQ {E:En} {x:AV} {xs:List AV} {vs:List Value} (h:RelL E (x::xs) vs):∃v vs',vs=v::vs'∧Rel E x v∧RelL E xs vs':=by rw [RelL] at h;exact h
theorem relL_nilQ {E:En} {vs:List Value} (h:RelL E [] vs):vs=[]:=by rw [RelL] at h;exact h
theorem cell_cur {w:World} {b o:Nat} {cur:Array Value} {t:TypeId} {v:Value} (h:w.heap[b]? = some (.cells cur t (0,0))) (hv:cur.toList[o]? = some v):w.cell? ⟨b,o,none⟩=some v:=by
 rw [cell_eq]
 unfold cellH
 rw [h]
 simpa using hv
section
variable {rb:ByteArray} {rc rf rst at0 np:Int} {pl:List Pr1} {pcells:List DV} {pn:Nat}
theorem clo_of {E:En} {w:World} {tm:Array Value} {s:Int} (hS:Sim noG 87 E ⟨tm,[]⟩ w (stR rb rc rf rst at0 np pcells pn s).S):∃b7 b8 b9,tm.getD 65 undef = .func (.func 126) #[] #[.pointer (some ⟨b7,0,none⟩),.pointer (some ⟨b8,0,none⟩),.pointer (some ⟨b9,0,none⟩)] ∧
 w.cell? ⟨b7,0,none⟩=some (.int .i64 at0)∧w.cell? ⟨b8,0,none⟩=some (.int .i64 np)∧w.cell? ⟨b9,2,none⟩=some (.int .i64 rf)∧w.cell? ⟨b9,3,none⟩=some (.int .i64 rst):=by
 have hr:Rel E (.clo 126 [.ptr 7 0,.ptr 8 0,.ptr 9 0]) (tm.getD 65 undef):=hS.tm 65
 have hh:∀r,E.hp r=(stR rb rc rf rst at0 np pcells pn s).rd r:=fun r=>congrFun hS.hp r
 have hE:E.h=w.heap:=hS.h.symm
 rw [Rel] at hr
 obtain ⟨⟨v1,v2⟩,⟨hv,hsz⟩,hrl⟩:=hr
 have h1:v1 = #[]:=Array.eq_empty_of_size_eq_zero hsz
 subst h1
 obtain ⟨u7,l7,e7,g7,hrl⟩:=relL_consQ hrl
 obtain ⟨u8,l8,e8,g8,hrl⟩:=relL_consQ hrl
 obtain ⟨u9,l9,e9,g9,hrl⟩:=relL_consQ hrl
 have e10:=relL_nilQ hrl
 subst e10 e9 e8
 have e11:v2.toList=[u7,u8,u9]:=by simpa using e7
 have e12:v2 = #[u7,u8,u9]:=by rw [←Array.toList_inj];exact e11
 subst e12
 have k7:E.hp 7=some (.mix [.d (.val (.int .i64 at0))]):=hh 7
 have k8:E.hp 8=some (.mix [.d (.val (.int .i64 np))]):=hh 8
 have k9:E.hp 9=some (.mix [.d (.val (.string rb)),.d (.val (.int .i64 rc)),.d (.val (.int .i64 rf)),.d (.val (.int .i64 rst)),.d (.dl pcells pn none)]):=hh 9
 obtain ⟨b7,z7,m7,rfl⟩:=rel_ptrQ k7 g7
 obtain ⟨b8,z8,m8,rfl⟩:=rel_ptrQ k8 g8
 obtain ⟨b9,z9,m9,rfl⟩:=rel_ptrQ k9 g9
 refine ⟨b7,b8,b9,hv,?_,?_,?_,?_⟩
 ·obtain ⟨b,cur,t,q1,q2,q3,_⟩:=hS.sim.ob _ _ k7
  rw [m7] at q1;cases q1
  obtain ⟨x0,y0,c0,r0,q3⟩:=relL_consQ q3
  rw [rel_vi r0] at c0
  exact cell_cur (by rw [←hE];exact q2) (by rw [c0];rfl)
 ·obtain ⟨b,cur,t,q1,q2,q3,_⟩:=hS.sim.ob _ _ k8
  rw [m8] at q1;cases q1
  obtain ⟨x0,y0,c0,r0,q3⟩:=relL_consQ q3
  rw [rel_vi r0] at c0
  exact cell_cur (by rw [←hE];exact q2) (by rw [c0];rfl)
 all_goals
  obtain ⟨b,cur,t,q1,q2,q3,_⟩:=hS.sim.ob _ _ k9
  rw [m9] at q1;cases q1
  obtain ⟨x0,y0,c0,r0,q3⟩:=relL_consQ q3
  obtain ⟨x1,y1,c1,r1,q3⟩:=relL_consQ q3
  obtain ⟨x2,y2,c2,r2,q3⟩:=relL_consQ q3
  obtain ⟨x3,y3,c3,r3,q3⟩:=relL_consQ q3
  rw [rel_vi r2] at c2
  rw [rel_vi r3] at c3
  subst c3 c2 c1
  exact cell_cur (by rw [←hE];exact q2) (by rw [c0];rfl)
noncomputable abbrev blkC:Code:=match (spine 11 costC).2 with | .seq (.seq _ b) _=>b | _ => .skip
noncomputable abbrev r16C:Code:=match (spine 11 costC).2 with | .seq (.seq y _) _=>y | _ => .skip
theorem blk_eq:blkC = .block 0 (.rangeFunc (.tmp 65) #[66,67] asgC bodC):=by kernel_rfl
theorem tail_eq:(spine 11 costC).2 = .seq (.seq r16C blkC) posC:=by kernel_rfl
def FinR (E0:En) (w0:World) (v:AV):Ending→World→Prop:=fun e w'=>∃u E',e = .returned u∧w'.heap=E'.h∧E'.hp=lookF []∧SimH noG E'∧Ext E0 E'∧StepF E0 w0 E' w'∧Rel E' v u
theorem fin_leaves {E0 E:En} {w0 w:World} {a:Act} {D:Nat} {sl:SL} {v:AV} (h0:E0.hp=lookF []) (hS:SimD [{target := .collected D,args := #[]}] noG 87 E a w sl.S) (hA:Along E0 w0 E w) (hD:w0.heap.size≤D) (hDo:w.heap[D]? = some (.deferred (some [])))
 (hq:match resA (tabF (tiOf Try.prog) tyRows) Try.f77 sl with | some x=>Back [] sl.hp [] v x | none=>False):LeavesInM Fence.wide 9 Try.prog Try.f77 a.tmps (FinR E0 w0 v) a.defers .returning w:=by
 rw [hS.dq]
 refine ⟨by simp,.inl ⟨D,_,rfl,run_takeDeferred hDo,?_⟩⟩
 obtain ⟨hS1,hA1,_⟩:=rebase (w':=w.putObj D (.deferred none)) hS.sm hA rfl rfl rfl (by simp) (put_keep hD hDo rfl rfl)
 rw [←KK.hT] at hq
 obtain ⟨x,k1,θ,k0,k2,k3⟩:∃x,resA (tiOf Try.prog) Try.f77 sl=some x∧Back [] sl.hp [] v x:=by
  cases hx:resA (tiOf Try.prog) Try.f77 sl with
  | none=>rw [hx] at hq;exact hq.elim
  | some x=>rw [hx] at hq;exact ⟨x,rfl,hq⟩
 obtain ⟨y,g1,g2⟩:=resA_sim hS1 k1
 have hp:({E with h:=(w.putObj D (.deferred none)).heap}:En).hp=lookF sl.hp:=hS1.hp
 rw [←hp] at k2 k3
 exact ⟨y,g1,y,weakE {E with h:=(w.putObj D (.deferred none)).heap} θ (lookF []),rfl,hS1.h,rfl,weak_simH hS1.sim k2,weak_ext0 hA1 k2 (fun r o ho=>by rw [h0] at ho;exact k0 r o ho),weak_step k2 hA1.fr,weak_rel hS1.sim k2 _ _ _ k3 g2⟩
set_option maxHeartbeats 1000000 in
theorem loop_in {E0 E:En} {w0 w:World} {a:Act} (h0:E0.hp=lookF []) (hcp:encL UP pl=pcells) (hnp:pl.length=pn) {n:Nat} (hn:np=(n:Int)) (hn1:(n:Int)≤4000000000000000000) {S:Int} (hsum:sumN pl rc (begN at0 rf rst) n=some S) (hS:Sim noG 87 E a w (stR rb rc rf rst at0 np pcells pn rc).S) (hA:Along E0 w0 E w) :
 blkC.wpIn Fence.wide 9 Try.prog (Exit.then (posC.wpIn Fence.wide 9 Try.prog (bodyPostM Fence.wide 9 Try.prog Try.f77 (FinR E0 w0 (.tup [.d (.val (.int .i64 S)),.d (.val (.int .u8 0))])))) (bodyPostM Fence.wide 9 Try.prog Try.f77 (FinR E0 w0 (.tup [.d (.val (.int .i64 S)),.d (.val (.int .u8 0))])))) a w:=by
 obtain ⟨tm,df⟩:=a
 have hdf:df=[]:=hS.df
 subst hdf
 rw [blk_eq]
 refine wpIn_block (wpIn_rangeFunc ?_)
 intro fn _
 obtain ⟨b7,b8,b9,hv,_⟩:=clo_of hS
 have hg:(⟨tm,[]⟩:Act).eval (.tmp 65) = .func (.func 126) #[] #[.pointer (some ⟨b7,0,none⟩),.pointer (some ⟨b8,0,none⟩),.pointer (some ⟨b9,0,none⟩)]:=hv
 have hD0:w0.heap.size≤w.heap.size:=hA.fr.size
 obtain ⟨W1,hW1⟩:∃W1,(w.alloc (.deferred (some []))).alloc (.loop (recL fn tm w.heap.size .ready none))=W1:=⟨_,rfl⟩
 have hL1:W1.heap[w.heap.size+1]? = some (.loop (recL fn tm w.heap.size .ready none)):=by
  rw [←hW1];have:=World.alloc_heap_new (w.alloc (.deferred (some []))) (.loop (recL fn tm w.heap.size .ready none));rwa [World.size_alloc] at this
 have hK1:W1.heap[w.heap.size]? = some (.deferred (some [])):=by
  rw [←hW1];exact (Below.heap_alloc _ _ _ (by simp)).trans (World.alloc_heap_new w _)
 have hB1:Below w.heap.size w W1:=by
  rw [←hW1];exact (((Below.refl _ w).alloc (Nat.le_refl _) _).alloc (by simp) _)
 obtain ⟨hS1,hA1,_⟩:=rebase (w':=W1) hS hA hB1.os hB1.tape hB1.output hB1.size (fun k hk => .inl (hB1.block k hk))
 refine ⟨w.heap.size+1,[{target := .collected w.heap.size,args := #[]}],W1,{target := .fn (.func 126) #[.pointer (some ⟨b7,0,none⟩),.pointer (some ⟨b8,0,none⟩),.pointer (some ⟨b9,0,none⟩)],args := #[.func (.yield (w.heap.size+1)) #[] #[]]},W1,126,
  #[.func (.yield (w.heap.size+1)) #[] #[],.pointer (some ⟨b7,0,none⟩),.pointer (some ⟨b8,0,none⟩),.pointer (some ⟨b9,0,none⟩)],W1,?_,?_,fun _ _=>trivial,?_,fun g=>(by cases g),?_⟩
 ·rw [←hW1];exact run_enterLoop_outer _ _ _ _ _
 ·simp only [resolve,hg]
  simp [go_sem]
 ·have eg:=Go.Proofs.enters_of Try.func126 (by kernel_rfl) rfl
  simp [invoke,go_sem,eg]
 ·refine (iter_in 8 (w.heap.size+1) b7 b8 b9 at0 rf rst n hn1 (InvR rb rc rf rst at0 np pl pcells pn E0 w0 tm w.heap.size (w.heap.size+1) fn) ?_ ?_ W1 ⟨_,rc,rfl,hS1,hA1,hK1,hL1⟩).mono ?_
  ·rintro k W ⟨E',s,_,hS',_⟩
   obtain ⟨c7,c8,c9,hv',r1,r2,r3,r4⟩:=clo_of hS'
   rw [hv] at hv'
   cases hv'
   rw [hn] at r2
   exact ⟨r1,r2,r3,r4⟩
  ·intro k W hk hI
   obtain ⟨s',hs'⟩:=sumN_le hsum (k+1) (by omega)
   exact round_in h0 hcp hnp hD0 (by omega) (by omega) hI hs' 7
  ·rintro e W2 ⟨⟨v,rfl⟩,E2,s2,hs2,hS2,hA2,hD2,hL2⟩
   rw [hsum] at hs2
   cases hs2
   refine ⟨none,_,run_endLoop hL2 (by simp [recL]),?_⟩
   obtain ⟨hS3,hA3,_⟩:=rebase (w':=W2.putObj (w.heap.size+1) (.loop {recL fn tm w.heap.size .ready none with state := .exhausted})) hS2 hA2 rfl rfl rfl (by simp) (put_keep (by omega) hL2 rfl rfl)
   have hD3:(W2.putObj (w.heap.size+1) (.loop {recL fn tm w.heap.size .ready none with state := .exhausted})).heap[w.heap.size]? = some (.deferred (some [])):=(World.putObj_heap_other (by omega)).trans hD2
   generalize W2.putObj (w.heap.size+1) (.loop {recL fn tm w.heap.size .ready none with state := .exhausted})=w4 at *
   have hp:=acode_soundI (df:=[{target := .collected w.heap.size,args := #[]}]) (hp0:=E2.hp) (wideF Try.prog) 9 KK.hq KK.hdp KK.hm KK.hT posC _ (stR rb rc rf rst at0 np pcells pn S) (by kernel_rfl) (by rw [←acodeP_real];exact post_ok)
   refine wpIn_mono (hp {E2 with h:=w4.heap} w4 {E2 with h:=w4.heap} _ w4 rfl ⟨hS3,rfl⟩ (Along.refl _ _)) ?_
   rintro e a5 w5 ⟨_,E5,⟨sl,rfl,hq⟩,hS5,hA5⟩
   have hD5:=nc_keep hS3 hA5 hD3 rfl rfl
   cases e with
   | normal=>exact fin_leaves h0 hS5 (hA3.trans hA5) hD0 hD5 hq
   | ret=>exact fin_leaves h0 hS5 (hA3.trans hA5) hD0 hD5 hq
   | exit i=>exact hq.elim
   | goto l=>exact hq.elim
   | panic ch=>exact hq.elim
   | outgrown=>exact hq.elim
end
end Go.Proofs.Ytkpijdndakljjaa

namespace Go.Proofs.Ytkpijdndakljjaa
open Go.RowKit
set_option maxRecDepth 100000
theorem acodeNP_app {p:Pr} {C:Cxt} {T:Ty} {q:Nat→Bool} {N:Nat} {Z:SL→Prop} {Q:Exit→SL→Prop}:∀(xs ys:List Code) (s:SL),acodeNP p C T noG q N Z (xs++ys) Q s=acodeNP p C T noG q N (fun s'=>acodeNP p C T noG q N Z ys Q s') xs Q s
 | [],ys,s=>rfl
 | x::xs,ys,s=>by
   rw [List.cons_append,acodeNP,acodeNP]
   have:(fun s'=>acodeNP p C T noG q N Z (xs++ys) Q s')=fun s'=>acodeNP p C T noG q N (fun s'=>acodeNP p C T noG q N Z ys Q s') xs Q s':=funext fun s'=>acodeNP_app xs ys s'
   rw [this]
noncomputable def rating_Cost:((List Ra×Int)×(List UInt8×(Int×Int)))→Option (Int×Int) :=
 fun ((rs,fr),(num,(a,b))) =>
 bindO (rating_Valid (rs,fr)) fun v =>
 bif !v then some ((0:Int),(2:Int)) else
 bindO (rating_within (a,((0:Int),(281474976710656:Int)))) fun x =>
 bif !x then some ((0:Int),(3:Int)) else
 bindO (rating_within (b,(a,(281474976710656:Int)))) fun y =>
 bif !y then some ((0:Int),(3:Int)) else
 bindO (rating_Seconds (a,b)) fun se =>
 bif decide (se > (1000000:Int)) then some ((0:Int),(4:Int)) else
 bindO (rating_Find ((rs,fr),num)) fun (ix,ok) =>
 bif !ok then some ((0:Int),(8:Int)) else
 bif decide ((0:Int)≤ix∧ix<((rs.length:Nat):Int)) then
 bindO (rating_Pieces (rs.getD ix.toNat ([],(0,(0,(0,[])))),(fr,se))) fun np =>
 bif decide (np=(0:Int)) then some ((0:Int),(0:Int)) else
 bif decide ((0:Int)≤np∧np≤(4000000000000000000:Int)) then
 bindO (sumN (rs.getD ix.toNat ([],(0,(0,(0,[]))))).2.2.2.2 (rs.getD ix.toNat ([],(0,(0,(0,[]))))).2.1 (begN (IntKind.wrap .i64 (a+IntKind.wrap .i64 (1000*fr))) (rs.getD ix.toNat ([],(0,(0,(0,[]))))).2.2.1 (rs.getD ix.toNat ([],(0,(0,(0,[]))))).2.2.2.1) np.toNat) fun s =>
 some (s,(0:Int))
 else none
 else none
theorem bindO_inv {α β:Type} {x:Option α} {f:α→Option β} {r:β} (h:bindO x f=some r):∃a,x=some a∧f a=some r:=by
 cases x with
 | none=>cases h
 | some a=>exact ⟨a,rfl,h⟩
theorem cost_o {rs:List Ra} {fr:Int} {num:List UInt8} {a b:Int} {r:Int×Int} (hG:rating_Cost ((rs,fr),(num,(a,b)))=some r) :
 DoesO Try.prog noG 77 [.agg [.d (.dl (encL UR rs) rs.length none),.d (.val (.int .i64 fr))],.d (.val (.string ⟨num.toArray⟩)),.d (.val (.int .i64 a)),.d (.val (.int .i64 b))] [] (.tup [.d (.val (.int .i64 r.1)),.d (.val (.int .u8 r.2))]) []:=by
 unfold rating_Cost at hG
 obtain ⟨v,hV,hG⟩:=bindO_inv hG
 cases v with
 | false=>cases hG;exact cost_e1 rfl rfl rfl hV
 | true =>
 obtain ⟨x,h1,hG⟩:=bindO_inv hG
 cases x with
 | false=>cases hG;exact cost_e2 rfl rfl rfl hV h1
 | true =>
 obtain ⟨y,h2,hG⟩:=bindO_inv hG
 cases y with
 | false=>cases hG;exact cost_e3 rfl rfl rfl hV h1 h2
 | true =>
 obtain ⟨se,h3,hG⟩:=bindO_inv hG
 by_cases h4:se > 1000000
 ·simp only [Bool.not_true,cond_false] at hG
  rw [decide_eq_true h4] at hG
  cases hG
  exact cost_e4 rfl rfl rfl hV h1 h2 h3 h4
 simp only [Bool.not_true,cond_false] at hG
 rw [decide_eq_false h4] at hG
 obtain ⟨⟨ix,ok⟩,hF,hG⟩:=bindO_inv hG
 cases ok with
 | false=>cases hG;exact cost_e5 rfl rfl rfl hV h1 h2 h3 (by omega) hF
 | true =>
 by_cases h5:¬(0≤ix∧ix<((rs.length:Nat):Int))
 ·simp only [Bool.not_true,cond_false] at hG
  rw [decide_eq_false h5] at hG
  cases hG
 rw [Classical.not_not] at h5
 simp only [Bool.not_true,cond_false] at hG
 rw [decide_eq_true h5] at hG
 obtain ⟨i,hi⟩:∃i:Nat,ix=(i:Int):=⟨ix.toNat,by omega⟩
 obtain ⟨np,hPi,hG⟩:=bindO_inv hG
 rw [hi,Int.toNat_natCast] at hG hPi
 by_cases h6:np=0
 ·skip
  rw [decide_eq_true h6] at hG
  cases hG
  exact cost_e6 rfl rfl rfl hV h1 h2 h3 (by omega) hF hi (by omega) rfl rfl rfl rfl rfl rfl rfl hPi h6
 rw [decide_eq_false h6] at hG
 by_cases h7:¬(0≤np∧np≤4000000000000000000)
 ·rw [decide_eq_false h7] at hG
  cases hG
 rw [Classical.not_not] at h7
 simp only [cond_false] at hG
 rw [decide_eq_true h7] at hG
 obtain ⟨s,hsum,hG⟩:=bindO_inv hG
 cases hG
 obtain ⟨n,hn⟩:∃n:Nat,np=(n:Int):=⟨np.toNat,by omega⟩
 rw [hn,Int.toNat_natCast] at hsum
 intro E w vs hE hw hs hrel
 have hlen:=relL_length _ _ hrel
 have hvs:vs.size=4:=by rw [←Array.length_toList];exact hlen
 refine callsIn_wide.1 (callsIn_of_wp_marks (n:=9) Try.func77 (c:=costC) rfl trivial ?_ rfl)
 have hS:Sim noG 87 E {tmps:=vs++Array.replicate (87-vs.size) undef,defers:=[]} w (⟨87,argTm 0 [.agg [.d (.dl (encL UR rs) rs.length none),.d (.val (.int .i64 fr))],.d (.val (.string ⟨num.toArray⟩)),.d (.val (.int .i64 a)),.d (.val (.int .i64 b))],[]⟩:SL).S:=by
  refine ⟨hw,hE,hs,?_,rfl,fun t => ?_⟩
  ·simp only [Array.size_append,Array.size_replicate];omega
  ·show Rel _ (match look t (argTm 0 _) with | some x=>x | none => .junk) _
   rw [look_argTm]
   simp only [Nat.zero_le,if_true,Nat.sub_zero]
   generalize hargs:[AV.agg [.d (.dl (encL UR rs) rs.length none),.d (.val (.int .i64 fr))],.d (.val (.string ⟨num.toArray⟩)),.d (.val (.int .i64 a)),.d (.val (.int .i64 b))]=args at *
   cases hx:args[t]? with
   | none=>simp only;rw [Rel];trivial
   | some x =>
     obtain ⟨u,k1,k2⟩:=relL_get _ _ t x hrel hx
     have ht:t<vs.size:=by
      have:=(List.getElem?_eq_some_iff.1 k1).1
      simpa using this
     rw [Array.getD_eq_getD_getElem?,Array.getElem?_append_left ht]
     have k1':vs[t]? = some u:=by simpa using k1
     rw [k1']
     exact k2
 rw [←spine_nest 11 costC]
 have hpre:=pre_ok (pl:=[]) (at0:=IntKind.wrap .i64 (a+IntKind.wrap .i64 (1000*fr))) (hp:=rfl) (F:=tiOf Try.prog) (C:=cxtOf Try.prog noG 87 (lookF [])) rfl rfl rfl hV h1 h2 h3 (by omega) hF hi (by omega) rfl rfl rfl rfl rfl rfl rfl hPi h6 rfl rfl rfl
 have hpc:preC 11 costC=(spine 11 costC).1++[r16C]:=by
  unfold preC
  rw [tail_eq]
 rw [hpc,acodeNP_app] at hpre
 refine wpIn_wide.2 (acodeN_sound KK (E0:=E) (w0:=w) hE (fun s' E' a' w' hZ hS' hA' => ?_) (fun e s' E' a' w' _ hq _ _=>hq.elim) _ _ hpre E _ w hS (Along.refl _ _))
 rw [tail_eq]
 refine (wpIn_wide (n:=9)).1 (wpIn_seq (wpIn_seq (wpIn_wide.2 ?_)))
 unfold acodeNP at hZ
 rw [acodeP_real] at hZ
 refine wp_mono (acode_sound KK.hq KK.hdp KK.hm KK.hT r16C _ s' hZ E w E' a' w' hE hS' hA') fun e a2 w2 ⟨_,E2,⟨sl,h1,h2⟩,hS2,hA2⟩ => ?_
 subst h1
 cases e with
 | normal =>
   unfold seqQ acodeNP at h2
   obtain ⟨E3,hS3,hA3⟩:=h2 E w E2 a2 w2 hE hS2 hA2
   exact loop_in hE rfl rfl hn (by omega) hsum hS3 hA3
 | _=>exact h2.elim
theorem con77:ConOk Try.prog 77 ⟨[(.tmp 0 true [(.dat (.list UR)),(.dat (.int .i64))]),(.tmp 1 false [(.dat .str)]),(.tmp 2 false [(.dat (.int .i64))]),(.tmp 3 false [(.dat (.int .i64))])],[(.tmp 0 false [(.dat (.int .i64))]),(.tmp 1 false [(.dat (.int .u8))])],rating_Cost⟩ :=
 ConOk.mk (by kernel_rfl) rfl rfl (fun _ _ h=>cost_o h)
end Go.Proofs.Ytkpijdndakljjaa
