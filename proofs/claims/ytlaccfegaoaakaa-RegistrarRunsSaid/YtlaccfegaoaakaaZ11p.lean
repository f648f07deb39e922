import Derived.Test.YtlaccfegaoaakaaB4p
import Derived.Test.YtlaccfegaoaakaaXBp
import Derived.Test.YtlaccfegaoaakaaA0p
import Derived.Test.YtlaccfegaoaakaaJ4p
import Derived.Test.YtlaccfegaoaakaaZ2p
import Derived.Test.YtlaccfegaoaakaaJ14p
set_option linter.unusedSimpArgs false
set_option linter.unusedVariables false
set_option maxRecDepth 1000000
set_option maxHeartbeats 0
namespace Go.Proofs.Ytlaccfegaoaakaa
open Go.RowKit
def planj94:List (Nat×PL):=[(134480385,(.carry [.tmp 3 false [(.dat (.int .u32))]])),(18049651601311750,(.carry [.tmp 9 false [(.dat (.int .i64))],.tmp 3 false [(.dat (.int .u32))]])),(2422583229119624904966657,(.carry [.tmp 3 false [(.dat (.int .u32))]])),(43641379711748622625774587972117695039494,(.carry [.tmp 17 false [(.dat (.int .i64))],.tmp 3 false [(.dat (.int .u32))]]))]
noncomputable def journal_Check:(List Int)→Option Int:=fun a1 =>
 joinO (loopO (fun (v2,v3) =>
 bif (decide (v2<(((List.length a1):Nat):Int))) then
 joinO (bif (decide (((0:Int)≤v2)∧(v2<(((List.length a1):Nat):Int)))) then
 bindO a1[(Int.toNat v2)]? fun x4 =>
 loopO (fun (v7,v8) =>
 bif (decide (v7<(8:Int))) then
 bindO (some (Go.IntKind.wrap .u32 (Int.tdiv v8 (2:Int)))) fun x10 =>
 bif (decide ((Go.IntKind.wrap .u32 (((BitVec.toNat ((BitVec.ofInt 32 v8) &&& (BitVec.ofInt 32 (1:Int)))):Nat):Int))=(1:Int))) then
 some (Sum.inl ((Go.IntKind.wrap .i64 (v7+(1:Int))),(Go.IntKind.wrap .u32 (((BitVec.toNat ((BitVec.ofInt 32 x10) ^^^ (BitVec.ofInt 32 (3988292384:Int)))):Nat):Int))))
 else
 some (Sum.inl ((Go.IntKind.wrap .i64 (v7+(1:Int))),x10))
 else
 outO (some (Sum.inl v8))) ((0:Int),(Go.IntKind.wrap .u32 (((BitVec.toNat ((BitVec.ofInt 32 v3) ^^^ (BitVec.ofInt 32 (Go.IntKind.wrap .u32 x4)))):Nat):Int)))
 else none) fun v14 =>
 some (Sum.inl ((Go.IntKind.wrap .i64 (v2+(1:Int))),v14))
 else
 outO (some (Sum.inl v3))) ((0:Int),(4294967295:Int))) fun v16 =>
 some (Go.IntKind.wrap .u32 (((BitVec.toNat ((BitVec.ofInt 32 (4294967295:Int)) ^^^ (BitVec.ofInt 32 v16))):Nat):Int))
noncomputable def consj94:List (Nat×CE):=[]
theorem consj94_ok:ConL Try.prog consj94:=trivial
theorem conj94:ConOk Try.prog 94 ⟨[(.tmp 0 false [(.dat (.list (.int .u8)))])],[(.tmp 0 false [(.dat (.int .u32))])],journal_Check⟩ :=
 tree_ok (plan:=planOf planj94) (eg:=egNo) KK tabL_ok (conOf_ok consj94_ok) Try.func94 (by kernel_rfl) (by kernel_rfl) 10000 (fun a r h=>Eq.trans (show _=journal_Check a from by kernel_rfl) h)
def planj96:List (Nat×PL):=[(134480385,(.carry [.tmp 3 false [(.dat (.int .u32))]])),(18049651601311750,(.carry [.tmp 4 false [(.dat (.int .i64))],.tmp 3 false [(.dat (.int .u32))]])),(4731607869374267392513,(.carry [.tmp 3 false [(.dat (.int .u32))]])),(166478651854509821417867418488014854,(.carry [.tmp 5 false [(.dat (.int .i64))],.tmp 3 false [(.dat (.int .u32))]]))]
noncomputable def dialtoneref20_Check:(List Int)→Option Int:=fun a1 =>
 joinO (loopO (fun (v2,v3) =>
 bif (decide (v2<(((List.length a1):Nat):Int))) then
 joinO (bif (decide (((0:Int)≤v2)∧(v2<(((List.length a1):Nat):Int)))) then
 bindO a1[(Int.toNat v2)]? fun x4 =>
 loopO (fun (v7,v8) =>
 bif (decide (v7<(8:Int))) then
 bif (decide ((Int.tmod v8 (2:Int))=(1:Int))) then
 some (Sum.inl ((Go.IntKind.wrap .i64 (v7+(1:Int))),(Go.IntKind.wrap .u32 (((BitVec.toNat ((BitVec.ofInt 32 (Go.IntKind.wrap .u32 (Int.tdiv v8 (2:Int)))) ^^^ (BitVec.ofInt 32 (3988292384:Int)))):Nat):Int))))
 else
 some (Sum.inl ((Go.IntKind.wrap .i64 (v7+(1:Int))),(Go.IntKind.wrap .u32 (Int.tdiv v8 (2:Int)))))
 else
 outO (some (Sum.inl v8))) ((0:Int),(Go.IntKind.wrap .u32 (((BitVec.toNat ((BitVec.ofInt 32 v3) ^^^ (BitVec.ofInt 32 (Go.IntKind.wrap .u32 x4)))):Nat):Int)))
 else none) fun v15 =>
 some (Sum.inl ((Go.IntKind.wrap .i64 (v2+(1:Int))),v15))
 else
 outO (some (Sum.inl v3))) ((0:Int),(4294967295:Int))) fun v17 =>
 some (Go.IntKind.wrap .u32 (((BitVec.toNat ((BitVec.ofInt 32 v17) ^^^ (BitVec.ofInt 32 (4294967295:Int)))):Nat):Int))
noncomputable def consj96:List (Nat×CE):=(94,⟨[(.tmp 0 false [(.dat (.list (.int .u8)))])],[(.tmp 0 false [(.dat (.int .u32))])],journal_Check⟩)::consj94
theorem consj96_ok:ConL Try.prog consj96:=⟨conj94,consj94_ok⟩
theorem conj96:ConOk Try.prog 96 ⟨[(.tmp 0 false [(.dat (.list (.int .u8)))])],[(.tmp 0 false [(.dat (.int .u32))])],dialtoneref20_Check⟩ :=
 tree_ok (plan:=planOf planj96) (eg:=egNo) KK tabL_ok (conOf_ok consj96_ok) Try.func96 (by kernel_rfl) (by kernel_rfl) 10000 (fun a r h=>Eq.trans (show _=dialtoneref20_Check a from by kernel_rfl) h)
def planj95:List (Nat×PL):=[(134480385,(.carry [.drop 0,.tmp 5 false [(.dat (.list (.int .u8)))]])),(18049651601311750,(.carry [.tmp 6 false [(.dat (.int .i64))],.tmp 0 false [(.dat (.int .i64))],.tmp 5 false [(.dat (.list (.int .u8)))]]))]
noncomputable def dialtoneref20_number:(Int×Int)→Option (List Int):=fun (a1,a2) =>
 joinO (loopO (fun (v3,(v4,v5)) =>
 bif (decide (v3<a2)) then
 bindO (some (Int.tmod v4 (256:Int))) fun x6 =>
 bif (decide ((1=0)∨((List.length v5)≠0))) then
 bif (decide (((List.length (((Go.IntKind.wrap .u8 x6)::([]:List Int))++v5))*1)≤140737488355328)) then
 bindO (some (((Go.IntKind.wrap .u8 x6)::([]:List Int))++v5)) fun x8 =>
 bif (decide ((List.length x8)≤(List.length x8))) then
 some (Sum.inl ((Go.IntKind.wrap .i64 (v3+(1:Int))),((Go.IntKind.wrap .i64 (Int.tdiv v4 (256:Int))),(List.take (List.length x8) x8))))
 else none
 else none
 else
 some (Sum.inl ((Go.IntKind.wrap .i64 (v3+(1:Int))),((Go.IntKind.wrap .i64 (Int.tdiv v4 (256:Int))),((Go.IntKind.wrap .u8 x6)::([]:List Int)))))
 else
 outO (some (Sum.inl v5))) ((0:Int),(a1,([]:List Int)))) fun v13 =>
 some v13
noncomputable def consj95:List (Nat×CE):=(96,⟨[(.tmp 0 false [(.dat (.list (.int .u8)))])],[(.tmp 0 false [(.dat (.int .u32))])],dialtoneref20_Check⟩)::consj96
theorem consj95_ok:ConL Try.prog consj95:=⟨conj96,consj96_ok⟩
theorem conj95:ConOk Try.prog 95 ⟨[(.tmp 0 false [(.dat (.int .i64))]),(.tmp 1 false [(.dat (.int .i64))])],[(.tmp 0 false [(.dat (.list (.int .u8)))])],dialtoneref20_number⟩ :=
 tree_ok (plan:=planOf planj95) (eg:=egAll) KK tabL_ok (conOf_ok consj95_ok) Try.func95 (by kernel_rfl) (by kernel_rfl) 10000 (fun a r h=>Eq.trans (show _=dialtoneref20_number a from by kernel_rfl) h)
def planj79:List (Nat×PL):=[(4731607904492334612511,(.carry [.tmp 0 false [(.own 10000005 5 (.int .u8))]])),(1240362622515238564662084097,(.carry [.tmp 0 false [(.own 10000004 5 (.int .u8))]])),(166478653090116965526926015110318086,(.carry [.tmp 10 false [(.dat (.int .i64))],.tmp 0 false [(.own 10000003 5 (.int .u8))]])),(22344386578255678367278332572200562860491265,(.carry [.tmp 0 false [(.own 10000002 5 (.int .u8))],.dead 10000003])),(786173211466051447306281901482090301346629135624380352518,(.carry [.tmp 7 false [(.dat (.int .i64))],.tmp 0 false [(.own 10000001 5 (.int .u8))],.dead 10000003])),(18049651735527445,(.carry [.tmp 0 false [(.own 10000006 5 (.int .u8))],.dead 22])),(4731607904558106542593,(.carry [.tmp 0 false [(.own 10000010 5 (.int .u8))],.dead 22])),(635065662736629904128633735174,(.carry [.tmp 10 false [(.dat (.int .i64))],.tmp 0 false [(.own 10000009 5 (.int .u8))],.dead 22])),(85237070383324728109003039679208227329,(.carry [.tmp 0 false [(.own 10000008 5 (.int .u8))],.dead 22,.dead 10000009])),(2999012800128859266877521744582980956552618278389766,(.carry [.tmp 7 false [(.dat (.int .i64))],.tmp 0 false [(.own 10000007 5 (.int .u8))],.dead 22,.dead 10000009]))]
noncomputable def journal_Encode:(Int×(Int×(List Int)))→Option ((List Int)×Int):=fun (a1,(a2,a3)) =>
 bif (decide (a1<(0:Int))) then
 some (([]:List Int),(3:Int))
 else
 bif (decide (a1 > (1048575:Int))) then
 some (([]:List Int),(3:Int))
 else
 bif (decide ((((List.length a3):Nat):Int) > (4096:Int))) then
 some (([]:List Int),(4:Int))
 else
 joinO (joinO (loopO (fun (v9,v10) =>
 bif (decide (v9<(5:Int))) then
 joinO (bif (decide (((0:Int)≤v9)∧(v9<(5:Int)))) then
 bindO (((167:Int),(1:Int))::(((Go.IntKind.wrap .u32 a2),(1:Int))::(((Go.IntKind.wrap .u32 a1),(4:Int))::(((Go.IntKind.wrap .u32 (((List.length a3):Nat):Int)),(2:Int))::(((Go.IntKind.wrap .u32 (Go.IntKind.wrap .i64 ((65535:Int)-(((List.length a3):Nat):Int)))),(2:Int))::([]:List (Int×Int)))))))[(Int.toNat v9)]? fun x11 =>
 bif (decide ((List.length v10)≤(List.length v10))) then
 loopO (fun (v13,v14) =>
 bif (decide (v13≥(0:Int))) then
 bindO (some (Go.IntKind.wrap .i64 ((8:Int)*v13))) fun x15 =>
 bif (decide ((0:Int)≤x15)) then
 bindO (some (Int.fdiv x11.1 ((2:Int) ^ (Min.min (Int.toNat x15) 32)))) fun x16 =>
 bif (decide ((List.length v14)≤(List.length v14))) then
 bif (decide (((List.length ((List.take (List.length v14) v14)++((Go.IntKind.wrap .u8 x16)::([]:List Int))))*1)≤140737488355328)) then
 bindO (some ((List.take (List.length v14) v14)++((Go.IntKind.wrap .u8 x16)::([]:List Int)))) fun x18 =>
 bif (decide ((List.length x18)≤(List.length x18))) then
 some (Sum.inl ((Go.IntKind.wrap .i64 (v13-(1:Int))),(List.take (List.length x18) x18)))
 else none
 else none
 else none
 else none
 else
 outO (bif (decide ((List.length v14)≤(List.length v14))) then
 some (Sum.inl (List.take (List.length v14) v14))
 else none)) ((Go.IntKind.wrap .i64 (x11.2-(1:Int))),(List.take (List.length v10) v10))
 else none
 else none) fun v20 =>
 bif (decide ((List.length v20)≤(List.length v20))) then
 some (Sum.inl ((Go.IntKind.wrap .i64 (v9+(1:Int))),(List.take (List.length v20) v20)))
 else none
 else
 outO (bif (decide ((List.length v10)≤(List.length v10))) then
 some (Sum.inl (List.take (List.length v10) v10))
 else none)) ((0:Int),([]:List Int))) fun v22 =>
 bif (decide ((List.length v22)≤(List.length v22))) then
 some (Sum.inl (List.take (List.length v22) v22))
 else none) fun v23 =>
 bif (decide ((List.length v23)≤(List.length v23))) then
 bif (decide (((List.length ((List.take (List.length v23) v23)++a3))*1)≤140737488355328)) then
 bindO (some ((List.take (List.length v23) v23)++a3)) fun x24 =>
 bif (decide ((List.length x24)≤(List.length x24))) then
 bindO (journal_Check (List.take (List.length x24) x24)) fun x25 =>
 joinO (joinO (bif (decide ((List.length x24)≤(List.length x24))) then
 loopO (fun (v26,v27) =>
 bif (decide (v26<(1:Int))) then
 joinO (bif (decide (((0:Int)≤v26)∧(v26<(1:Int)))) then
 bindO ((x25,(4:Int))::([]:List (Int×Int)))[(Int.toNat v26)]? fun x28 =>
 bif (decide ((List.length v27)≤(List.length v27))) then
 loopO (fun (v30,v31) =>
 bif (decide (v30≥(0:Int))) then
 bindO (some (Go.IntKind.wrap .i64 ((8:Int)*v30))) fun x32 =>
 bif (decide ((0:Int)≤x32)) then
 bindO (some (Int.fdiv x28.1 ((2:Int) ^ (Min.min (Int.toNat x32) 32)))) fun x33 =>
 bif (decide ((List.length v31)≤(List.length v31))) then
 bif (decide (((List.length ((List.take (List.length v31) v31)++((Go.IntKind.wrap .u8 x33)::([]:List Int))))*1)≤140737488355328)) then
 bindO (some ((List.take (List.length v31) v31)++((Go.IntKind.wrap .u8 x33)::([]:List Int)))) fun x35 =>
 bif (decide ((List.length x35)≤(List.length x35))) then
 some (Sum.inl ((Go.IntKind.wrap .i64 (v30-(1:Int))),(List.take (List.length x35) x35)))
 else none
 else none
 else none
 else none
 else
 outO (bif (decide ((List.length v31)≤(List.length v31))) then
 some (Sum.inl (List.take (List.length v31) v31))
 else none)) ((Go.IntKind.wrap .i64 (x28.2-(1:Int))),(List.take (List.length v27) v27))
 else none
 else none) fun v37 =>
 bif (decide ((List.length v37)≤(List.length v37))) then
 some (Sum.inl ((Go.IntKind.wrap .i64 (v26+(1:Int))),(List.take (List.length v37) v37)))
 else none
 else
 outO (bif (decide ((List.length v27)≤(List.length v27))) then
 some (Sum.inl (List.take (List.length v27) v27))
 else none)) ((0:Int),(List.take (List.length x24) x24))
 else none) fun v39 =>
 bif (decide ((List.length v39)≤(List.length v39))) then
 some (Sum.inl (List.take (List.length v39) v39))
 else none) fun v40 =>
 bif (decide ((List.length v40)≤(List.length v40))) then
 some ((List.take (List.length v40) v40),(0:Int))
 else none
 else none
 else none
 else none
noncomputable def consj79:List (Nat×CE):=(95,⟨[(.tmp 0 false [(.dat (.int .i64))]),(.tmp 1 false [(.dat (.int .i64))])],[(.tmp 0 false [(.dat (.list (.int .u8)))])],dialtoneref20_number⟩)::consj95
theorem consj79_ok:ConL Try.prog consj79:=⟨conj95,consj95_ok⟩
theorem conj79:ConOk Try.prog 79 ⟨[(.tmp 0 false [(.dat (.int .i64))]),(.tmp 1 true [(.dat (.int .u8)),(.dat (.list (.int .u8)))])],[(.tmp 0 false [(.dat (.list (.int .u8)))]),(.tmp 1 false [(.dat (.int .u8))])],journal_Encode⟩ :=
 tree_ok (plan:=planOf planj79) (eg:=egNo) KK tabL_ok (conOf_ok consj79_ok) Try.func79 (by kernel_rfl) (by kernel_rfl) 10000 (fun a r h=>Eq.trans (show _=journal_Encode a from by kernel_rfl) h)
def planj84:List (Nat×PL):=[]
noncomputable def dialtoneref20_Encode:(Int×(Int×(List Int)))→Option ((List Int)×Int):=fun (a1,(a2,a3)) =>
 bif (decide (a1<(0:Int))) then
 some (([]:List Int),(3:Int))
 else
 bif (decide (a1≥(1048576:Int))) then
 some (([]:List Int),(3:Int))
 else
 bif (decide ((((List.length a3):Nat):Int) > (4096:Int))) then
 some (([]:List Int),(4:Int))
 else
 bindO (dialtoneref20_number (a1,(4:Int))) fun x4 =>
 bif (decide ((2=0)∨((List.length x4)≠0))) then
 bif (decide (((List.length (((167:Int)::(a2::([]:List Int)))++x4))*1)≤140737488355328)) then
 bindO (some (((167:Int)::(a2::([]:List Int)))++x4)) fun x5 =>
 bindO (dialtoneref20_number ((((List.length a3):Nat):Int),(2:Int))) fun x6 =>
 bif (decide ((List.length x5)≤(List.length x5))) then
 bif (decide (((List.length ((List.take (List.length x5) x5)++x6))*1)≤140737488355328)) then
 bindO (some ((List.take (List.length x5) x5)++x6)) fun x7 =>
 bindO (dialtoneref20_number ((Go.IntKind.wrap .i64 ((65535:Int)-(((List.length a3):Nat):Int))),(2:Int))) fun x9 =>
 bif (decide ((List.length x7)≤(List.length x7))) then
 bif (decide (((List.length ((List.take (List.length x7) x7)++x9))*1)≤140737488355328)) then
 bindO (some ((List.take (List.length x7) x7)++x9)) fun x10 =>
 bif (decide ((List.length x10)≤(List.length x10))) then
 bif (decide (((List.length ((List.take (List.length x10) x10)++a3))*1)≤140737488355328)) then
 bindO (some ((List.take (List.length x10) x10)++a3)) fun x11 =>
 bif (decide ((List.length x11)≤(List.length x11))) then
 bindO (dialtoneref20_Check (List.take (List.length x11) x11)) fun x12 =>
 bindO (dialtoneref20_number ((Go.IntKind.wrap .i64 x12),(4:Int))) fun x14 =>
 bif (decide ((List.length x11)≤(List.length x11))) then
 bif (decide (((List.length ((List.take (List.length x11) x11)++x14))*1)≤140737488355328)) then
 bindO (some ((List.take (List.length x11) x11)++x14)) fun x15 =>
 bif (decide ((List.length x15)≤(List.length x15))) then
 some ((List.take (List.length x15) x15),(0:Int))
 else none
 else none
 else none
 else none
 else none
 else none
 else none
 else none
 else none
 else none
 else none
 else none
noncomputable def consj84:List (Nat×CE):=(79,⟨[(.tmp 0 false [(.dat (.int .i64))]),(.tmp 1 true [(.dat (.int .u8)),(.dat (.list (.int .u8)))])],[(.tmp 0 false [(.dat (.list (.int .u8)))]),(.tmp 1 false [(.dat (.int .u8))])],journal_Encode⟩)::consj79
theorem consj84_ok:ConL Try.prog consj84:=⟨conj79,consj79_ok⟩
theorem conj84:ConOk Try.prog 84 ⟨[(.tmp 0 false [(.dat (.int .i64))]),(.tmp 1 true [(.dat (.int .u8)),(.dat (.list (.int .u8)))])],[(.tmp 0 false [(.dat (.list (.int .u8)))]),(.tmp 1 false [(.dat (.int .u8))])],dialtoneref20_Encode⟩ :=
 tree_ok (plan:=planOf planj84) (eg:=egNo) KK tabL_ok (conOf_ok consj84_ok) Try.func84 (by kernel_rfl) (by kernel_rfl) 10000 (fun a r h=>Eq.trans (show _=dialtoneref20_Encode a from by kernel_rfl) h)
def planj69:List (Nat×PL):=[]
noncomputable def journal_joined:((List Int)×(List Int))→Option (List Int):=fun (a1,a2) =>
 bindO (some (Go.IntKind.wrap .i64 ((((List.length a1):Nat):Int)+(((List.length a2):Nat):Int)))) fun x3 =>
 bif (decide (((0:Int)≤x3)∧((x3≤x3)∧(((x3*(1:Int))≤(140737488355328:Int))∧(x3≤(9223372036854775807:Int)))))) then
 bif (decide ((Int.toNat x3)≤(List.length (List.replicate (Int.toNat x3) (0:Int))))) then
 bif (decide (((0:Int)≤(((List.length a1):Nat):Int))∧((((List.length a1):Nat):Int)≤(((Int.toNat x3):Nat):Int)))) then
 bif (decide (((Int.toNat (((List.length a1):Nat):Int))+((Int.toNat x3)-(Int.toNat (((List.length a1):Nat):Int))))≤(List.length (layL (List.replicate (Int.toNat x3) (0:Int)) 0 (List.take (Int.toNat x3) a1))))) then
 bif (decide ((Int.toNat x3)≤(List.length (layL (layL (List.replicate (Int.toNat x3) (0:Int)) 0 (List.take (Int.toNat x3) a1)) (Int.toNat (((List.length a1):Nat):Int)) (List.take ((Int.toNat x3)-(Int.toNat (((List.length a1):Nat):Int))) a2))))) then
 some (List.take (Int.toNat x3) (layL (layL (List.replicate (Int.toNat x3) (0:Int)) 0 (List.take (Int.toNat x3) a1)) (Int.toNat (((List.length a1):Nat):Int)) (List.take ((Int.toNat x3)-(Int.toNat (((List.length a1):Nat):Int))) a2)))
 else none
 else none
 else none
 else none
 else none
noncomputable def consj69:List (Nat×CE):=(84,⟨[(.tmp 0 false [(.dat (.int .i64))]),(.tmp 1 true [(.dat (.int .u8)),(.dat (.list (.int .u8)))])],[(.tmp 0 false [(.dat (.list (.int .u8)))]),(.tmp 1 false [(.dat (.int .u8))])],dialtoneref20_Encode⟩)::consj84
theorem consj69_ok:ConL Try.prog consj69:=⟨conj84,consj84_ok⟩
theorem conj69:ConOk Try.prog 69 ⟨[(.tmp 0 false [(.dat (.list (.int .u8)))]),(.tmp 1 false [(.dat (.list (.int .u8)))])],[(.tmp 0 false [(.dat (.list (.int .u8)))])],journal_joined⟩ :=
 tree_ok (plan:=planOf planj69) (eg:=egNo) KK tabL_ok (conOf_ok consj69_ok) Try.func69 (by kernel_rfl) (by kernel_rfl) 10000 (fun a r h=>Eq.trans (show _=journal_joined a from by kernel_rfl) h)
def planj43:List (Nat×PL):=[]
noncomputable def dialtoneref20_copied:(List Int)→Option (List Int):=fun a1 =>
 bif (decide (((List.length a1)*1)≤140737488355328)) then
 bif (decide ((List.length a1)≤(List.length a1))) then
 some (List.take (List.length a1) a1)
 else none
 else none
noncomputable def consj43:List (Nat×CE):=(69,⟨[(.tmp 0 false [(.dat (.list (.int .u8)))]),(.tmp 1 false [(.dat (.list (.int .u8)))])],[(.tmp 0 false [(.dat (.list (.int .u8)))])],journal_joined⟩)::consj69
theorem consj43_ok:ConL Try.prog consj43:=⟨conj69,consj69_ok⟩
theorem conj43:ConOk Try.prog 43 ⟨[(.tmp 0 false [(.dat (.list (.int .u8)))])],[(.tmp 0 false [(.dat (.list (.int .u8)))])],dialtoneref20_copied⟩ :=
 tree_ok (plan:=planOf planj43) (eg:=egNo) KK tabL_ok (conOf_ok consj43_ok) Try.func43 (by kernel_rfl) (by kernel_rfl) 10000 (fun a r h=>Eq.trans (show _=dialtoneref20_copied a from by kernel_rfl) h)
def planj68:List (Nat×PL):=[]
noncomputable def journal_Valid:((List Int)×(Int×Int))→Option Bool:=fun (a1,(a2,a3)) =>
 bif (decide (a2≥(0:Int))) then
 bif (decide (a2≤(((List.length a1):Nat):Int))) then
 bif (decide (a3≥(0:Int))) then
 some (decide (a3≤(1048576:Int)))
 else
 some Bool.false
 else
 some Bool.false
 else
 some Bool.false
noncomputable def consj68:List (Nat×CE):=(43,⟨[(.tmp 0 false [(.dat (.list (.int .u8)))])],[(.tmp 0 false [(.dat (.list (.int .u8)))])],dialtoneref20_copied⟩)::consj43
theorem consj68_ok:ConL Try.prog consj68:=⟨conj43,consj43_ok⟩
theorem conj68:ConOk Try.prog 68 ⟨[(.tmp 0 true [(.dat (.list (.int .u8))),(.dat (.int .i64)),(.dat (.int .i64))])],[(.tmp 0 false [(.dat .bool)])],journal_Valid⟩ :=
 tree_ok (plan:=planOf planj68) (eg:=egNo) KK tabL_ok (conOf_ok consj68_ok) Try.func68 (by kernel_rfl) (by kernel_rfl) 10000 (fun a r h=>Eq.trans (show _=journal_Valid a from by kernel_rfl) h)
def planj42:List (Nat×PL):=[]
noncomputable def dialtoneref20_Valid:((List Int)×(Int×Int))→Option Bool:=fun (a1,(a2,a3)) =>
 bif (decide (a2≥(0:Int))) then
 bif (decide (a2≤(((List.length a1):Nat):Int))) then
 bif (decide (a3≥(0:Int))) then
 some (decide (a3≤(1048576:Int)))
 else
 some Bool.false
 else
 some Bool.false
 else
 some Bool.false
noncomputable def consj42:List (Nat×CE):=(68,⟨[(.tmp 0 true [(.dat (.list (.int .u8))),(.dat (.int .i64)),(.dat (.int .i64))])],[(.tmp 0 false [(.dat .bool)])],journal_Valid⟩)::consj68
theorem consj42_ok:ConL Try.prog consj42:=⟨conj68,consj68_ok⟩
theorem conj42:ConOk Try.prog 42 ⟨[(.tmp 0 true [(.dat (.list (.int .u8))),(.dat (.int .i64)),(.dat (.int .i64))])],[(.tmp 0 false [(.dat .bool)])],dialtoneref20_Valid⟩ :=
 tree_ok (plan:=planOf planj42) (eg:=egNo) KK tabL_ok (conOf_ok consj42_ok) Try.func42 (by kernel_rfl) (by kernel_rfl) 10000 (fun a r h=>Eq.trans (show _=dialtoneref20_Valid a from by kernel_rfl) h)
def planj51:List (Nat×PL):=[]
noncomputable def dialtoneref20_SameLog:(((List Int)×(Int×Int))×((List Int)×(Int×Int)))→Option Bool:=fun ((a1,(a2,a3)),(a4,(a5,a6))) =>
 bif (decide ((bytesU a1)=(bytesU a4))) then
 bif (decide (a2=a5)) then
 some (decide (a3=a6))
 else
 some Bool.false
 else
 some Bool.false
noncomputable def consj51:List (Nat×CE):=(42,⟨[(.tmp 0 true [(.dat (.list (.int .u8))),(.dat (.int .i64)),(.dat (.int .i64))])],[(.tmp 0 false [(.dat .bool)])],dialtoneref20_Valid⟩)::consj42
theorem consj51_ok:ConL Try.prog consj51:=⟨conj42,consj42_ok⟩
theorem conj51:ConOk Try.prog 51 ⟨[(.tmp 0 true [(.dat (.list (.int .u8))),(.dat (.int .i64)),(.dat (.int .i64))]),(.tmp 1 true [(.dat (.list (.int .u8))),(.dat (.int .i64)),(.dat (.int .i64))])],[(.tmp 0 false [(.dat .bool)])],dialtoneref20_SameLog⟩ :=
 tree_ok (plan:=planOf planj51) (eg:=egNo) KK tabL_ok (conOf_ok consj51_ok) Try.func51 (by kernel_rfl) (by kernel_rfl) 10000 (fun a r h=>Eq.trans (show _=dialtoneref20_SameLog a from by kernel_rfl) h)
def planj46:List (Nat×PL):=[]
noncomputable def journal_Append:(((List Int)×(Int×Int))×(Int×(List Int)))→Option (((List Int)×(Int×Int))×Int):=fun ((a1,(a2,a3)),(a4,a5)) =>
 bindO (journal_Valid (a1,(a2,a3))) fun x6 =>
 bif (!x6) then
 some ((([]:List Int),((0:Int),(0:Int))),(2:Int))
 else
 bif (decide (a3≥(1048576:Int))) then
 some ((([]:List Int),((0:Int),(0:Int))),(10:Int))
 else
 bindO (journal_Encode (a3,(a4,a5))) fun (x8,x9) =>
 bif (decide (x9≠(0:Int))) then
 some ((([]:List Int),((0:Int),(0:Int))),x9)
 else
 bindO (journal_joined (a1,x8)) fun x10 =>
 some ((x10,(a2,(Go.IntKind.wrap .i64 (a3+(1:Int))))),(0:Int))
noncomputable def consj46:List (Nat×CE):=(51,⟨[(.tmp 0 true [(.dat (.list (.int .u8))),(.dat (.int .i64)),(.dat (.int .i64))]),(.tmp 1 true [(.dat (.list (.int .u8))),(.dat (.int .i64)),(.dat (.int .i64))])],[(.tmp 0 false [(.dat .bool)])],dialtoneref20_SameLog⟩)::consj51
theorem consj46_ok:ConL Try.prog consj46:=⟨conj51,consj51_ok⟩
theorem conj46:ConOk Try.prog 46 ⟨[(.tmp 0 true [(.dat (.list (.int .u8))),(.dat (.int .i64)),(.dat (.int .i64))]),(.tmp 1 true [(.dat (.int .u8)),(.dat (.list (.int .u8)))])],[(.tmp 0 true [(.dat (.list (.int .u8))),(.dat (.int .i64)),(.dat (.int .i64))]),(.tmp 1 false [(.dat (.int .u8))])],journal_Append⟩ :=
 tree_ok (plan:=planOf planj46) (eg:=egNo) KK tabL_ok (conOf_ok consj46_ok) Try.func46 (by kernel_rfl) (by kernel_rfl) 10000 (fun a r h=>Eq.trans (show _=journal_Append a from by kernel_rfl) h)
def planj41:List (Nat×PL):=[]
noncomputable def journal_Sync:((List Int)×(Int×Int))→Option ((List Int)×(Int×Int)):=fun (a1,(a2,a3)) =>
 bindO (journal_Valid (a1,(a2,a3))) fun x4 =>
 bif (!x4) then
 some (([]:List Int),((0:Int),(0:Int)))
 else
 bindO (journal_joined (a1,([]:List Int))) fun x5 =>
 some (x5,((((List.length a1):Nat):Int),a3))
noncomputable def consj41:List (Nat×CE):=(46,⟨[(.tmp 0 true [(.dat (.list (.int .u8))),(.dat (.int .i64)),(.dat (.int .i64))]),(.tmp 1 true [(.dat (.int .u8)),(.dat (.list (.int .u8)))])],[(.tmp 0 true [(.dat (.list (.int .u8))),(.dat (.int .i64)),(.dat (.int .i64))]),(.tmp 1 false [(.dat (.int .u8))])],journal_Append⟩)::consj46
theorem consj41_ok:ConL Try.prog consj41:=⟨conj46,consj46_ok⟩
theorem conj41:ConOk Try.prog 41 ⟨[(.tmp 0 true [(.dat (.list (.int .u8))),(.dat (.int .i64)),(.dat (.int .i64))])],[(.tmp 0 true [(.dat (.list (.int .u8))),(.dat (.int .i64)),(.dat (.int .i64))])],journal_Sync⟩ :=
 tree_ok (plan:=planOf planj41) (eg:=egNo) KK tabL_ok (conOf_ok consj41_ok) Try.func41 (by kernel_rfl) (by kernel_rfl) 10000 (fun a r h=>Eq.trans (show _=journal_Sync a from by kernel_rfl) h)
end Go.Proofs.Ytlaccfegaoaakaa

namespace Go.Proofs.Ytlaccfegaoaakaa
open Go.RowKit
set_option maxHeartbeats 4000000
set_option maxRecDepth 10000
def cloneG {α:Type} (l:List α):Option (List α):=bif decide (l.length≤1000000) then some l else none
def cloneB (l:List Int):Option (List Int):=bif decide (l.length≤140737488355328) then some l else none
theorem clone1_66 {cs:List DV} {n:Nat} (hw:cs.length=n*1) (h1:1≤n) (h2:n≤140737488355328):DoesO Try.prog (fun _=>none) 66 [.d (.dl cs n none)] [] (.sl 1 0 n none) [(1,.data 5 1 cs true)]:=by
 refine does_p KK (fn:=Try.f66) Try.func66 rfl (by show 1≤_;decide) ?_
 intro C F p hC hF hp
 conv=>cbv
 have e1:(p.emp cs)=false:=p_empL hp (by omega)
 simp only [e1];clear e1
 conv=>cbv
 obtain ⟨z2,hz2⟩:∃z:Nat,z=(cs).length:=⟨_,rfl⟩
 have ez2:(p.len cs)=z2:=by rw [hz2];exact p_len hp
 simp only [ez2]
 conv=>cbv
 have ez3:(p.nm n 1)=n:=by rw [p_nm hp];omega
 simp only [ez3];clear ez3
 conv=>cbv
 have e4:(p.neq z2 n)=true:=p_neq hp (by omega)
 simp only [e4];clear e4
 conv=>cbv
 have e5:(p.neq 0 0)=true:=p_neq hp (by omega)
 simp only [e5];clear e5
 conv=>cbv
 have e6:(p.fit 0 n 1)=true:=p_fit hp (by omega) (by show _≤9223372036854775807;omega)
 simp only [e6];clear e6
 conv=>cbv
 have ez7:(p.na 0 n)=n:=by rw [p_na hp];omega
 simp only [ez7];clear ez7
 conv=>cbv
 have ez8:(p.app [] cs)=cs:=by rw [p_app hp];rfl
 simp only [ez8];clear ez8
 conv=>cbv
 exact back_obj [(1,1302)] rfl rfl ⟨⟨rfl,rfl,rfl⟩,trivial⟩ rfl rfl
theorem clone_con66:ConOk Try.prog 66 ⟨[.tmp 0 false [.dat (.list (.int .u8))]],[.tmp 0 false [.own 1 5 (.int .u8)]],cloneB⟩:=by
 refine ⟨by kernel_rfl,?_⟩
 show ∀(a x:List (Int)),cloneB a=some x→DoesO Try.prog noG 66 [.d (.dl (encL (.int .u8) a) a.length none)] [] (.sl 1 0 x.length none) [(1,.data 5 (szU (.int .u8)) (encL (.int .u8) x) true)]
 intro a x hx
 unfold cloneB at hx
 rw [cond_ite] at hx
 split at hx
 ·cases hx
  by_cases h0:a=[]
  ·subst h0;exact clone0_66
  ·refine clone1_66 ?_ (by cases a with | nil=>exact absurd rfl h0 | cons _ _=>simp) (by assumption)
   exact encL_length _ _
 ·cases hx
theorem clone1_86 {cs:List DV} {n:Nat} (hw:cs.length=n*10) (h1:1≤n) (h2:n≤1000000):DoesO Try.prog (fun _=>none) 86 [.d (.dl cs n none)] [] (.sl 1 0 n none) [(1,.data 76 10 cs true)]:=by
 refine does_p KK (fn:=Try.f86) Try.func86 rfl (by show 1≤_;decide) ?_
 intro C F p hC hF hp
 conv=>cbv
 have e9:(p.emp cs)=false:=p_empL hp (by omega)
 simp only [e9];clear e9
 conv=>cbv
 obtain ⟨z10,hz10⟩:∃z:Nat,z=(cs).length:=⟨_,rfl⟩
 have ez10:(p.len cs)=z10:=by rw [hz10];exact p_len hp
 simp only [ez10]
 conv=>cbv
 obtain ⟨z11,hz11⟩:∃z:Nat,z=n*10:=⟨_,rfl⟩
 have ez11:(p.nm n 10)=z11:=by rw [hz11];exact p_nm hp
 simp only [ez11]
 conv=>cbv
 have e12:(p.neq z10 z11)=true:=p_neq hp (by omega)
 simp only [e12];clear e12
 conv=>cbv
 have e13:(p.neq 0 0)=true:=p_neq hp (by omega)
 simp only [e13];clear e13
 conv=>cbv
 have e14:(p.fit 0 n 128)=true:=p_fit hp (by omega) (by show _≤9223372036854775807;omega)
 simp only [e14];clear e14
 conv=>cbv
 have ez15:(p.na 0 n)=n:=by rw [p_na hp];omega
 simp only [ez15];clear ez15
 conv=>cbv
 have ez16:(p.app [] cs)=cs:=by rw [p_app hp];rfl
 simp only [ez16];clear ez16
 conv=>cbv
 exact back_obj [(1,1302)] rfl rfl ⟨⟨rfl,rfl,rfl⟩,trivial⟩ rfl rfl
theorem clone_con86:ConOk Try.prog 86 ⟨[.tmp 0 false [.dat (.list (.pair .str (.pair .str (.pair (.int .i64) (.pair (.int .i64) (.pair (.int .i64) (.pair .str (.pair (.int .i64) (.pair .str (.pair (.int .i64) (.list .str)))))))))))]],[.tmp 0 false [.own 1 76 (.pair .str (.pair .str (.pair (.int .i64) (.pair (.int .i64) (.pair (.int .i64) (.pair .str (.pair (.int .i64) (.pair .str (.pair (.int .i64) (.list .str))))))))))]],cloneG⟩:=by
 refine ⟨by kernel_rfl,?_⟩
 show ∀(a x:List ((List UInt8)×((List UInt8)×((Int)×((Int)×((Int)×((List UInt8)×((Int)×((List UInt8)×((Int)×(List (List UInt8)))))))))))),cloneG a=some x→DoesO Try.prog noG 86 [.d (.dl (encL (.pair .str (.pair .str (.pair (.int .i64) (.pair (.int .i64) (.pair (.int .i64) (.pair .str (.pair (.int .i64) (.pair .str (.pair (.int .i64) (.list .str)))))))))) a) a.length none)] [] (.sl 1 0 x.length none) [(1,.data 76 (szU (.pair .str (.pair .str (.pair (.int .i64) (.pair (.int .i64) (.pair (.int .i64) (.pair .str (.pair (.int .i64) (.pair .str (.pair (.int .i64) (.list .str))))))))))) (encL (.pair .str (.pair .str (.pair (.int .i64) (.pair (.int .i64) (.pair (.int .i64) (.pair .str (.pair (.int .i64) (.pair .str (.pair (.int .i64) (.list .str)))))))))) x) true)]
 intro a x hx
 unfold cloneG at hx
 rw [cond_ite] at hx
 split at hx
 ·cases hx
  by_cases h0:a=[]
  ·subst h0;exact clone0_86
  ·refine clone1_86 ?_ (by cases a with | nil=>exact absurd rfl h0 | cons _ _=>simp) (by assumption)
   exact encL_length _ _
 ·cases hx
theorem clone1_87 {cs:List DV} {n:Nat} (hw:cs.length=n*1) (h1:1≤n) (h2:n≤1000000):DoesO Try.prog (fun _=>none) 87 [.d (.dl cs n none)] [] (.sl 1 0 n none) [(1,.data 9 1 cs true)]:=by
 refine does_p KK (fn:=Try.f87) Try.func87 rfl (by show 1≤_;decide) ?_
 intro C F p hC hF hp
 conv=>cbv
 have e17:(p.emp cs)=false:=p_empL hp (by omega)
 simp only [e17];clear e17
 conv=>cbv
 obtain ⟨z18,hz18⟩:∃z:Nat,z=(cs).length:=⟨_,rfl⟩
 have ez18:(p.len cs)=z18:=by rw [hz18];exact p_len hp
 simp only [ez18]
 conv=>cbv
 have ez19:(p.nm n 1)=n:=by rw [p_nm hp];omega
 simp only [ez19];clear ez19
 conv=>cbv
 have e20:(p.neq z18 n)=true:=p_neq hp (by omega)
 simp only [e20];clear e20
 conv=>cbv
 have e21:(p.neq 0 0)=true:=p_neq hp (by omega)
 simp only [e21];clear e21
 conv=>cbv
 have e22:(p.fit 0 n 16)=true:=p_fit hp (by omega) (by show _≤9223372036854775807;omega)
 simp only [e22];clear e22
 conv=>cbv
 have ez23:(p.na 0 n)=n:=by rw [p_na hp];omega
 simp only [ez23];clear ez23
 conv=>cbv
 have ez24:(p.app [] cs)=cs:=by rw [p_app hp];rfl
 simp only [ez24];clear ez24
 conv=>cbv
 exact back_obj [(1,1302)] rfl rfl ⟨⟨rfl,rfl,rfl⟩,trivial⟩ rfl rfl
theorem clone_con87:ConOk Try.prog 87 ⟨[.tmp 0 false [.dat (.list .str)]],[.tmp 0 false [.own 1 9 .str]],cloneG⟩:=by
 refine ⟨by kernel_rfl,?_⟩
 show ∀(a x:List (List UInt8)),cloneG a=some x→DoesO Try.prog noG 87 [.d (.dl (encL .str a) a.length none)] [] (.sl 1 0 x.length none) [(1,.data 9 (szU .str) (encL .str x) true)]
 intro a x hx
 unfold cloneG at hx
 rw [cond_ite] at hx
 split at hx
 ·cases hx
  by_cases h0:a=[]
  ·subst h0;exact clone0_87
  ·refine clone1_87 ?_ (by cases a with | nil=>exact absurd rfl h0 | cons _ _=>simp) (by assumption)
   exact encL_length _ _
 ·cases hx
end Go.Proofs.Ytlaccfegaoaakaa

namespace Go.Proofs.Ytlaccfegaoaakaa
open Go.RowKit
set_option maxHeartbeats 4000000
set_option maxRecDepth 10000
theorem clone_back {e z:Nat}:Back [(20000001,.data e z [] true)] [(20000001,.data e z [] true)] [(20000002,.data e z [] true),(20000001,.data e z [] true)] (.sl 20000002 0 0 none) (.d (.val (.slice none 0 0))):=by
 refine ⟨fun r=>if r=20000001 then some 20000001 else none,fun r o h => ?_,⟨fun r' o ho => ?_,fun r' r'' o' o'' r h1 h2 h3 h4 h5 h6 => ?_⟩,?_⟩
 ·rw [look] at h
  split at h
  ·rename_i hk;subst hk;exact ⟨if_pos rfl,rfl⟩
  ·cases h
 ·unfold lookF at ho
  rw [look] at ho
  unfold WkO
  split at ho
  ·rename_i hk;subst hk;cases ho
   exact rfl
  ·rw [look] at ho
   split at ho
   ·rename_i hk;subst hk;cases ho
    show ∃wr1 cs1,_
    exact ⟨true,[],rfl,.inl rfl,fun h=>h,fun h=>by cases h⟩
   ·cases ho
 ·split at h5
  ·split at h6
   ·rename_i a b;rw [a,b]
   ·cases h6
  ·cases h5
 ·rw [WkV]
  exact ⟨rfl,.inr (.inl ⟨by rw [if_neg (by decide)],rfl,rfl,rfl,rfl⟩)⟩
theorem clone3_66:DoesO Try.prog (fun _=>none) 66 [.sl 20000001 0 0 none] [(20000001,.data 5 1 [] true)] (.sl 20000002 0 0 none) [(20000002,.data 5 1 [] true),(20000001,.data 5 1 [] true)]:=by
 refine does_p KK (fn:=Try.f66) Try.func66 rfl (by show 1≤_;decide) ?_
 intro C F p hC hF hp
 conv=>cbv
 have e1:(p.neq 0 0)=true:=p_neq hp (by omega)
 simp only [e1];clear e1
 conv=>cbv
 refine ⟨clone_back,?_⟩
 conv=>cbv
 have ez2:(p.nm 0 1)=0:=by rw [hp];rfl
 simp only [ez2];clear ez2
 conv=>cbv
 have ez3:(p.na 0 0)=0:=by rw [hp];rfl
 simp only [ez3];clear ez3
 conv=>cbv
 have ez4:(p.len [])=0:=by rw [hp];rfl
 simp only [ez4];clear ez4
 conv=>cbv
 have e5:(p.nle 0 0)=true:=p_nle hp (by omega)
 simp only [e5];clear e5
 conv=>cbv
 have e6:(p.neq 0 0)=true:=p_neq hp (by omega)
 simp only [e6];clear e6
 conv=>cbv
 have e7:(p.fit 0 0 1)=true:=p_fit hp (by omega) (by show _≤9223372036854775807;omega)
 simp only [e7];clear e7
 conv=>cbv
 have ez8:(p.na 0 0)=0:=by rw [hp];rfl
 simp only [ez8];clear ez8
 conv=>cbv
 have ez9:(p.cut [] 0 0)=[]:=by rw [hp];rfl
 simp only [ez9];clear ez9
 conv=>cbv
 have ez10:(p.app [] [])=[]:=by rw [p_app hp];rfl
 simp only [ez10];clear ez10
 conv=>cbv
 exact back_obj [(20000002,1302),(20000001,20000001)] rfl rfl ⟨⟨rfl,rfl,rfl⟩,⟨rfl,rfl,rfl⟩,trivial⟩ rfl rfl
theorem clone2_66 {cs:List DV} {n:Nat} (hw:cs.length=n*1) (h1:1≤n) (h2:n≤140737488355328):DoesO Try.prog (fun _=>none) 66 [.sl 20000001 0 n none] [(20000001,.data 5 1 cs true)] (.sl 20000002 0 n none) [(20000002,.data 5 1 cs true),(20000001,.data 5 1 cs true)]:=by
 refine does_p KK (fn:=Try.f66) Try.func66 rfl (by show 1≤_;decide) ?_
 intro C F p hC hF hp
 conv=>cbv
 have e12:(p.neq n 0)=false:=p_neqf hp (by omega)
 simp only [e12];clear e12
 conv=>cbv
 have ez13:(p.nm n 1)=n:=by rw [p_nm hp];omega
 simp only [ez13];clear ez13
 conv=>cbv
 have ez14:(p.na 0 n)=n:=by rw [p_na hp];omega
 simp only [ez14];clear ez14
 conv=>cbv
 obtain ⟨z15,hz15⟩:∃z:Nat,z=(cs).length:=⟨_,rfl⟩
 have ez15:(p.len cs)=z15:=by rw [hz15];exact p_len hp
 simp only [ez15]
 conv=>cbv
 have e16:(p.nle n z15)=true:=p_nle hp (by omega)
 simp only [e16];clear e16
 conv=>cbv
 have e17:(p.neq 0 0)=true:=p_neq hp (by omega)
 simp only [e17];clear e17
 conv=>cbv
 have e18:(p.fit 0 n 1)=true:=p_fit hp (by omega) (by show _≤9223372036854775807;omega)
 simp only [e18];clear e18
 conv=>cbv
 have ez19:(p.na 0 n)=n:=by rw [p_na hp];omega
 simp only [ez19];clear ez19
 conv=>cbv
 have ez20:(p.cut cs 0 n)=cs:=p_cutAll hp (by omega)
 simp only [ez20]
 conv=>cbv
 have ez21:(p.app [] cs)=cs:=by rw [p_app hp];rfl
 simp only [ez21];clear ez21
 conv=>cbv
 exact back_obj [(20000002,1302),(20000001,20000001)] rfl rfl ⟨⟨rfl,rfl,rfl⟩,⟨rfl,rfl,rfl⟩,trivial⟩ rfl rfl
theorem clone_conm66:ConOk Try.prog 66 ⟨[.tmp 0 false [.own 20000001 5 (.int .u8)]],[.tmp 0 false [.own 20000002 5 (.int .u8)]],cloneB⟩:=by
 refine ⟨by kernel_rfl,?_⟩
 show ∀(a x:List (Int)),cloneB a=some x→DoesO Try.prog noG 66 [.sl 20000001 0 a.length none] [(20000001,.data 5 (szU (.int .u8)) (encL (.int .u8) a) true)] (.sl 20000002 0 x.length none) [(20000002,.data 5 (szU (.int .u8)) (encL (.int .u8) x) true),(20000001,.data 5 (szU (.int .u8)) (encL (.int .u8) a) true)]
 intro a x hx
 unfold cloneB at hx
 rw [cond_ite] at hx
 split at hx
 ·cases hx
  by_cases h0:a=[]
  ·subst h0;exact clone3_66
  ·refine clone2_66 ?_ (by cases a with | nil=>exact absurd rfl h0 | cons _ _=>simp) (by assumption)
   exact encL_length _ _
 ·cases hx
theorem clone3_86:DoesO Try.prog (fun _=>none) 86 [.sl 20000001 0 0 none] [(20000001,.data 76 10 [] true)] (.sl 20000002 0 0 none) [(20000002,.data 76 10 [] true),(20000001,.data 76 10 [] true)]:=by
 refine does_p KK (fn:=Try.f86) Try.func86 rfl (by show 1≤_;decide) ?_
 intro C F p hC hF hp
 conv=>cbv
 have e22:(p.neq 0 0)=true:=p_neq hp (by omega)
 simp only [e22];clear e22
 conv=>cbv
 refine ⟨clone_back,?_⟩
 conv=>cbv
 have ez23:(p.nm 0 10)=0:=by rw [hp];rfl
 simp only [ez23];clear ez23
 conv=>cbv
 have ez24:(p.na 0 0)=0:=by rw [hp];rfl
 simp only [ez24];clear ez24
 conv=>cbv
 have ez25:(p.len [])=0:=by rw [hp];rfl
 simp only [ez25];clear ez25
 conv=>cbv
 have e26:(p.nle 0 0)=true:=p_nle hp (by omega)
 simp only [e26];clear e26
 conv=>cbv
 have e27:(p.neq 0 0)=true:=p_neq hp (by omega)
 simp only [e27];clear e27
 conv=>cbv
 have e28:(p.fit 0 0 128)=true:=p_fit hp (by omega) (by show _≤9223372036854775807;omega)
 simp only [e28];clear e28
 conv=>cbv
 have ez29:(p.na 0 0)=0:=by rw [hp];rfl
 simp only [ez29];clear ez29
 conv=>cbv
 have ez30:(p.cut [] 0 0)=[]:=by rw [hp];rfl
 simp only [ez30];clear ez30
 conv=>cbv
 have ez31:(p.app [] [])=[]:=by rw [p_app hp];rfl
 simp only [ez31];clear ez31
 conv=>cbv
 exact back_obj [(20000002,1302),(20000001,20000001)] rfl rfl ⟨⟨rfl,rfl,rfl⟩,⟨rfl,rfl,rfl⟩,trivial⟩ rfl rfl
theorem clone2_86 {cs:List DV} {n:Nat} (hw:cs.length=n*10) (h1:1≤n) (h2:n≤1000000):DoesO Try.prog (fun _=>none) 86 [.sl 20000001 0 n none] [(20000001,.data 76 10 cs true)] (.sl 20000002 0 n none) [(20000002,.data 76 10 cs true),(20000001,.data 76 10 cs true)]:=by
 refine does_p KK (fn:=Try.f86) Try.func86 rfl (by show 1≤_;decide) ?_
 intro C F p hC hF hp
 conv=>cbv
 have e33:(p.neq n 0)=false:=p_neqf hp (by omega)
 simp only [e33];clear e33
 conv=>cbv
 obtain ⟨z34,hz34⟩:∃z:Nat,z=n*10:=⟨_,rfl⟩
 have ez34:(p.nm n 10)=z34:=by rw [hz34];exact p_nm hp
 simp only [ez34]
 conv=>cbv
 have ez35:(p.na 0 z34)=z34:=by rw [p_na hp];omega
 simp only [ez35];clear ez35
 conv=>cbv
 obtain ⟨z36,hz36⟩:∃z:Nat,z=(cs).length:=⟨_,rfl⟩
 have ez36:(p.len cs)=z36:=by rw [hz36];exact p_len hp
 simp only [ez36]
 conv=>cbv
 have e37:(p.nle z34 z36)=true:=p_nle hp (by omega)
 simp only [e37];clear e37
 conv=>cbv
 have e38:(p.neq 0 0)=true:=p_neq hp (by omega)
 simp only [e38];clear e38
 conv=>cbv
 have e39:(p.fit 0 n 128)=true:=p_fit hp (by omega) (by show _≤9223372036854775807;omega)
 simp only [e39];clear e39
 conv=>cbv
 have ez40:(p.na 0 n)=n:=by rw [p_na hp];omega
 simp only [ez40];clear ez40
 conv=>cbv
 have ez41:(p.cut cs 0 z34)=cs:=p_cutAll hp (by omega)
 simp only [ez41]
 conv=>cbv
 have ez42:(p.app [] cs)=cs:=by rw [p_app hp];rfl
 simp only [ez42];clear ez42
 conv=>cbv
 exact back_obj [(20000002,1302),(20000001,20000001)] rfl rfl ⟨⟨rfl,rfl,rfl⟩,⟨rfl,rfl,rfl⟩,trivial⟩ rfl rfl
theorem clone_conm86:ConOk Try.prog 86 ⟨[.tmp 0 false [.own 20000001 76 (.pair .str (.pair .str (.pair (.int .i64) (.pair (.int .i64) (.pair (.int .i64) (.pair .str (.pair (.int .i64) (.pair .str (.pair (.int .i64) (.list .str))))))))))]],[.tmp 0 false [.own 20000002 76 (.pair .str (.pair .str (.pair (.int .i64) (.pair (.int .i64) (.pair (.int .i64) (.pair .str (.pair (.int .i64) (.pair .str (.pair (.int .i64) (.list .str))))))))))]],cloneG⟩:=by
 refine ⟨by kernel_rfl,?_⟩
 show ∀(a x:List ((List UInt8)×((List UInt8)×((Int)×((Int)×((Int)×((List UInt8)×((Int)×((List UInt8)×((Int)×(List (List UInt8)))))))))))),cloneG a=some x→DoesO Try.prog noG 86 [.sl 20000001 0 a.length none] [(20000001,.data 76 (szU (.pair .str (.pair .str (.pair (.int .i64) (.pair (.int .i64) (.pair (.int .i64) (.pair .str (.pair (.int .i64) (.pair .str (.pair (.int .i64) (.list .str))))))))))) (encL (.pair .str (.pair .str (.pair (.int .i64) (.pair (.int .i64) (.pair (.int .i64) (.pair .str (.pair (.int .i64) (.pair .str (.pair (.int .i64) (.list .str)))))))))) a) true)] (.sl 20000002 0 x.length none) [(20000002,.data 76 (szU (.pair .str (.pair .str (.pair (.int .i64) (.pair (.int .i64) (.pair (.int .i64) (.pair .str (.pair (.int .i64) (.pair .str (.pair (.int .i64) (.list .str))))))))))) (encL (.pair .str (.pair .str (.pair (.int .i64) (.pair (.int .i64) (.pair (.int .i64) (.pair .str (.pair (.int .i64) (.pair .str (.pair (.int .i64) (.list .str)))))))))) x) true),(20000001,.data 76 (szU (.pair .str (.pair .str (.pair (.int .i64) (.pair (.int .i64) (.pair (.int .i64) (.pair .str (.pair (.int .i64) (.pair .str (.pair (.int .i64) (.list .str))))))))))) (encL (.pair .str (.pair .str (.pair (.int .i64) (.pair (.int .i64) (.pair (.int .i64) (.pair .str (.pair (.int .i64) (.pair .str (.pair (.int .i64) (.list .str)))))))))) a) true)]
 intro a x hx
 unfold cloneG at hx
 rw [cond_ite] at hx
 split at hx
 ·cases hx
  by_cases h0:a=[]
  ·subst h0;exact clone3_86
  ·refine clone2_86 ?_ (by cases a with | nil=>exact absurd rfl h0 | cons _ _=>simp) (by assumption)
   exact encL_length _ _
 ·cases hx
theorem clone3_87:DoesO Try.prog (fun _=>none) 87 [.sl 20000001 0 0 none] [(20000001,.data 9 1 [] true)] (.sl 20000002 0 0 none) [(20000002,.data 9 1 [] true),(20000001,.data 9 1 [] true)]:=by
 refine does_p KK (fn:=Try.f87) Try.func87 rfl (by show 1≤_;decide) ?_
 intro C F p hC hF hp
 conv=>cbv
 have e43:(p.neq 0 0)=true:=p_neq hp (by omega)
 simp only [e43];clear e43
 conv=>cbv
 refine ⟨clone_back,?_⟩
 conv=>cbv
 have ez44:(p.nm 0 1)=0:=by rw [hp];rfl
 simp only [ez44];clear ez44
 conv=>cbv
 have ez45:(p.na 0 0)=0:=by rw [hp];rfl
 simp only [ez45];clear ez45
 conv=>cbv
 have ez46:(p.len [])=0:=by rw [hp];rfl
 simp only [ez46];clear ez46
 conv=>cbv
 have e47:(p.nle 0 0)=true:=p_nle hp (by omega)
 simp only [e47];clear e47
 conv=>cbv
 have e48:(p.neq 0 0)=true:=p_neq hp (by omega)
 simp only [e48];clear e48
 conv=>cbv
 have e49:(p.fit 0 0 16)=true:=p_fit hp (by omega) (by show _≤9223372036854775807;omega)
 simp only [e49];clear e49
 conv=>cbv
 have ez50:(p.na 0 0)=0:=by rw [hp];rfl
 simp only [ez50];clear ez50
 conv=>cbv
 have ez51:(p.cut [] 0 0)=[]:=by rw [hp];rfl
 simp only [ez51];clear ez51
 conv=>cbv
 have ez52:(p.app [] [])=[]:=by rw [p_app hp];rfl
 simp only [ez52];clear ez52
 conv=>cbv
 exact back_obj [(20000002,1302),(20000001,20000001)] rfl rfl ⟨⟨rfl,rfl,rfl⟩,⟨rfl,rfl,rfl⟩,trivial⟩ rfl rfl
theorem clone2_87 {cs:List DV} {n:Nat} (hw:cs.length=n*1) (h1:1≤n) (h2:n≤1000000):DoesO Try.prog (fun _=>none) 87 [.sl 20000001 0 n none] [(20000001,.data 9 1 cs true)] (.sl 20000002 0 n none) [(20000002,.data 9 1 cs true),(20000001,.data 9 1 cs true)]:=by
 refine does_p KK (fn:=Try.f87) Try.func87 rfl (by show 1≤_;decide) ?_
 intro C F p hC hF hp
 conv=>cbv
 have e54:(p.neq n 0)=false:=p_neqf hp (by omega)
 simp only [e54];clear e54
 conv=>cbv
 have ez55:(p.nm n 1)=n:=by rw [p_nm hp];omega
 simp only [ez55];clear ez55
 conv=>cbv
 have ez56:(p.na 0 n)=n:=by rw [p_na hp];omega
 simp only [ez56];clear ez56
 conv=>cbv
 obtain ⟨z57,hz57⟩:∃z:Nat,z=(cs).length:=⟨_,rfl⟩
 have ez57:(p.len cs)=z57:=by rw [hz57];exact p_len hp
 simp only [ez57]
 conv=>cbv
 have e58:(p.nle n z57)=true:=p_nle hp (by omega)
 simp only [e58];clear e58
 conv=>cbv
 have e59:(p.neq 0 0)=true:=p_neq hp (by omega)
 simp only [e59];clear e59
 conv=>cbv
 have e60:(p.fit 0 n 16)=true:=p_fit hp (by omega) (by show _≤9223372036854775807;omega)
 simp only [e60];clear e60
 conv=>cbv
 have ez61:(p.na 0 n)=n:=by rw [p_na hp];omega
 simp only [ez61];clear ez61
 conv=>cbv
 have ez62:(p.cut cs 0 n)=cs:=p_cutAll hp (by omega)
 simp only [ez62]
 conv=>cbv
 have ez63:(p.app [] cs)=cs:=by rw [p_app hp];rfl
 simp only [ez63];clear ez63
 conv=>cbv
 exact back_obj [(20000002,1302),(20000001,20000001)] rfl rfl ⟨⟨rfl,rfl,rfl⟩,⟨rfl,rfl,rfl⟩,trivial⟩ rfl rfl
theorem clone_conm87:ConOk Try.prog 87 ⟨[.tmp 0 false [.own 20000001 9 .str]],[.tmp 0 false [.own 20000002 9 .str]],cloneG⟩:=by
 refine ⟨by kernel_rfl,?_⟩
 show ∀(a x:List (List UInt8)),cloneG a=some x→DoesO Try.prog noG 87 [.sl 20000001 0 a.length none] [(20000001,.data 9 (szU .str) (encL .str a) true)] (.sl 20000002 0 x.length none) [(20000002,.data 9 (szU .str) (encL .str x) true),(20000001,.data 9 (szU .str) (encL .str a) true)]
 intro a x hx
 unfold cloneG at hx
 rw [cond_ite] at hx
 split at hx
 ·cases hx
  by_cases h0:a=[]
  ·subst h0;exact clone3_87
  ·refine clone2_87 ?_ (by cases a with | nil=>exact absurd rfl h0 | cons _ _=>simp) (by assumption)
   exact encL_length _ _
 ·cases hx
end Go.Proofs.Ytlaccfegaoaakaa

set_option maxRecDepth 1000000
set_option maxHeartbeats 0
namespace Go.Proofs.Ytlaccfegaoaakaa
open Go.RowKit
def plan78:List (Nat×PL):=[]
noncomputable def registrar_expiry:((Int×(Int×(Int×Int)))×((LU×(LU×(Int×(Bool×((List (LU×(Int×Int)))×(Int×(LU×(Int×(List LU)))))))))×(LU×(Int×Int))))→Option Int:=fun ((a1,(a2,(a3,a4))),((a5,(a6,(a7,(a8,(a9,(a10,(a11,(a12,a13)))))))),(a14,(a15,a16)))) =>
 bif (decide (a16≠(-1:Int))) then
 some (minA a16 a3)
 else
 bif (decide (a10≠(-1:Int))) then
 some (minA a10 a3)
 else
 some (minA a2 a3)
noncomputable def cons78:List (Nat×CE):=(23,⟨[(.tmp 0 false [dI]),(.tmp 1 true [dS,dS,dI,dO,(.dat (.list (.pair .str (.pair uI6 uI6)))),dI,dS,dI,(.dat (.list .str))])],[(.tmp 0 false [dY]),(.tmp 1 false [dE])],encR⟩)::(1000000087,⟨[.tmp 0 false [.own 20000001 9 .str]],[.tmp 0 false [.own 20000002 9 .str]],cloneG⟩)::(1000000086,⟨[.tmp 0 false [.own 20000001 76 UBd]],[.tmp 0 false [.own 20000002 76 UBd]],cloneG⟩)::(1000000066,⟨[.tmp 0 false [.own 20000001 5 uI8]],[.tmp 0 false [.own 20000002 5 uI8]],cloneB⟩)::(87,⟨[.tmp 0 false [.dat (.list .str)]],[.tmp 0 false [.own 1 9 .str]],cloneG⟩)::(86,⟨[.tmp 0 false [.dat (.list UBd)]],[.tmp 0 false [.own 1 76 UBd]],cloneG⟩)::(66,⟨[.tmp 0 false [.dat (.list uI8)]],[.tmp 0 false [.own 1 5 uI8]],cloneB⟩)::(72,⟨[.tmp 0 false [.own 20000003 76 UBd],.tmp 1 false [.cl 73 []]],[.row 20000003 76 UBd],slices_SortStableFunc___api_Binding_api_Binding⟩)::(88,⟨[.tmp 0 false [.own 20000003 76 UBd],.tmp 1 false [.dat uI6],.tmp 2 false [.cl 73 []]],[.row 20000003 76 UBd],slices_stableCmpFunc_api_Binding⟩)::(99,⟨[.tmp 0 false [.own 20000003 76 UBd],.tmp 1 false [.dat uI6],.tmp 2 false [.dat uI6],.tmp 3 false [.dat uI6],.tmp 4 false [.cl 73 []]],[.row 20000003 76 UBd],slices_symMergeCmpFunc_api_Binding⟩)::(101,⟨[.tmp 0 false [.own 20000003 76 UBd],.tmp 1 false [.dat uI6],.tmp 2 false [.dat uI6],.tmp 3 false [.dat uI6],.tmp 4 false [.cl 73 []]],[.row 20000003 76 UBd],slices_rotateCmpFunc_api_Binding⟩)::(102,⟨[.tmp 0 false [.own 20000003 76 UBd],.tmp 1 false [.dat uI6],.tmp 2 false [.dat uI6],.tmp 3 false [.dat uI6],.tmp 4 false [.cl 73 []]],[.row 20000003 76 UBd],slices_swapRangeCmpFunc_api_Binding⟩)::(98,⟨[.tmp 0 false [.own 20000003 76 UBd],.tmp 1 false [.dat uI6],.tmp 2 false [.dat uI6],.tmp 3 false [.cl 73 []]],[.row 20000003 76 UBd],slices_insertionSortCmpFunc_api_Binding⟩)::(73,⟨[(.tmp 0 true [dS,dS,dI,dI,dI,dS,dI,dS,dI,(.dat (.list .str))]),(.tmp 1 true [dS,dS,dI,dI,dI,dS,dI,dS,dI,(.dat (.list .str))])],[(.tmp 0 false [dI])],registrar_Lookup_1⟩)::(76,⟨[(.tmp 0 false [dS]),(.tmp 1 false [dS])],[(.tmp 0 false [dI])],cmp_Compare_string⟩)::(75,⟨[(.tmp 0 false [dI]),(.tmp 1 false [dI])],[(.tmp 0 false [dI])],cmp_Compare_int⟩)::(41,⟨[(.tmp 0 true [dY,dI,dI])],[(.tmp 0 true [dY,dI,dI])],journal_Sync⟩)::(46,⟨[(.tmp 0 true [dY,dI,dI]),(.tmp 1 true [dE,dY])],[(.tmp 0 true [dY,dI,dI]),(.tmp 1 false [dE])],journal_Append⟩)::(51,⟨[(.tmp 0 true [dY,dI,dI]),(.tmp 1 true [dY,dI,dI])],[(.tmp 0 false [dO])],dialtoneref20_SameLog⟩)::(42,⟨[(.tmp 0 true [dY,dI,dI])],[(.tmp 0 false [dO])],dialtoneref20_Valid⟩)::(68,⟨[(.tmp 0 true [dY,dI,dI])],[(.tmp 0 false [dO])],journal_Valid⟩)::(69,⟨[(.tmp 0 false [dY]),(.tmp 1 false [dY])],[(.tmp 0 false [dY])],journal_joined⟩)::(84,⟨[(.tmp 0 false [dI]),(.tmp 1 true [dE,dY])],[(.tmp 0 false [dY]),(.tmp 1 false [dE])],dialtoneref20_Encode⟩)::(79,⟨[(.tmp 0 false [dI]),(.tmp 1 true [dE,dY])],[(.tmp 0 false [dY]),(.tmp 1 false [dE])],journal_Encode⟩)::(95,⟨[(.tmp 0 false [dI]),(.tmp 1 false [dI])],[(.tmp 0 false [dY])],dialtoneref20_number⟩)::(96,⟨[(.tmp 0 false [dY])],[(.tmp 0 false [(.dat (.int .u32))])],dialtoneref20_Check⟩)::(94,⟨[(.tmp 0 false [dY])],[(.tmp 0 false [(.dat (.int .u32))])],journal_Check⟩)::(50,⟨[(.tmp 0 false [(.dat (.list .str))]),(.tmp 1 false [(.dat (.list .str))])],[(.tmp 0 false [dO])],dialtoneref22_strings⟩)::(22,⟨[(.tmp 0 false [dI]),(.tmp 1 true [dS,dS,dI,dO,(.dat (.list (.pair .str (.pair uI6 uI6)))),dI,dS,dI,(.dat (.list .str))])],[(.tmp 0 false [dY]),(.tmp 1 false [dE])],registrar_EncodeAct⟩)::cons3
theorem cons78_ok:ConL Try.prog cons78:=⟨con23_encR,⟨clone_conm87,⟨clone_conm86,⟨clone_conm66,⟨clone_con87,⟨clone_con86,⟨clone_con66,⟨con72,⟨con88,⟨con99,⟨con101,⟨con102,⟨con98,⟨con73,⟨con76,⟨con75,⟨conj41,⟨conj46,⟨conj51,⟨conj42,⟨conj68,⟨conj69,⟨conj84,⟨conj79,⟨conj95,⟨conj96,⟨conj94,⟨con50,⟨con22,cons3_ok⟩⟩⟩⟩⟩⟩⟩⟩⟩⟩⟩⟩⟩⟩⟩⟩⟩⟩⟩⟩⟩⟩⟩⟩⟩⟩⟩⟩⟩
theorem con78:ConOk Try.prog 78 ⟨[(.tmp 0 true [dI,dI,dI,dI]),(.tmp 1 true [dS,dS,dI,dO,(.dat (.list (.pair .str (.pair uI6 uI6)))),dI,dS,dI,(.dat (.list .str))]),(.tmp 2 true [dS,dI,dI])],[(.tmp 0 false [dI])],registrar_expiry⟩ :=
 tree_ok (plan:=planOf plan78) (eg:=egNo) KK tabL_ok (conOf_ok cons78_ok) Try.func78 (by kernel_rfl) (by kernel_rfl) 10000 (fun a r h=>Eq.trans (show _=registrar_expiry a from by kernel_rfl) h)
def plan77:List (Nat×PL):=[(134480385,.unroll),(4731607904491931959314,(.carry [.tmp 0 false [dI]])),(1240362622515133011542409729,(.carry [])),(166478653090102798427020009337522182,(.carry [.tmp 8 false [dI]]))]
noncomputable def registrar_touches:((LU×(LU×(Int×(Bool×((List (LU×(Int×Int)))×(Int×(LU×(Int×(List LU)))))))))×(LU×(LU×(Int×(Int×(Int×(LU×(Int×(LU×(Int×(List LU)))))))))))→Option Bool:=fun ((a1,(a2,(a3,(a4,(a5,(a6,(a7,(a8,a9)))))))),(a10,(a11,(a12,(a13,(a14,(a15,(a16,(a17,(a18,a19)))))))))) =>
 bif a4 then
 some Bool.true
 else
 bif (decide (a8≠z0)) then
 bif (decide (a18=a8)) then
 joinO (joinO (loopO (fun v20 =>
 bif (decide (v20<(lI a5))) then
 bif (iR v20 a5) then
 bindO a5[(Int.toNat v20)]? fun x21 =>
 bif (decide (x21.1=a11)) then
 outO (outO (some (Sum.inl v20)))
 else
 bif (decide (a17=a7)) then
 outO (outO (some (Sum.inl v20)))
 else
 some (Sum.inl (wI (v20+z1)))
 else none
 else
 outO (some (Sum.inl ()))) z0) fun _ =>
 some (Sum.inl (-1:Int))) fun v23 =>
 some (decide (v23≥z0))
 else
 joinO (joinO (loopO (fun v24 =>
 bif (decide (v24<(lI a5))) then
 bif (iR v24 a5) then
 bindO a5[(Int.toNat v24)]? fun x25 =>
 bif (decide (x25.1=a11)) then
 outO (outO (some (Sum.inl v24)))
 else
 some (Sum.inl (wI (v24+z1)))
 else none
 else
 outO (some (Sum.inl ()))) z0) fun _ =>
 some (Sum.inl (-1:Int))) fun v27 =>
 some (decide (v27≥z0))
 else
 joinO (joinO (loopO (fun v28 =>
 bif (decide (v28<(lI a5))) then
 bif (iR v28 a5) then
 bindO a5[(Int.toNat v28)]? fun x29 =>
 bif (decide (x29.1=a11)) then
 outO (outO (some (Sum.inl v28)))
 else
 some (Sum.inl (wI (v28+z1)))
 else none
 else
 outO (some (Sum.inl ()))) z0) fun _ =>
 some (Sum.inl (-1:Int))) fun v31 =>
 some (decide (v31≥z0))
noncomputable def cons77:List (Nat×CE):=(78,⟨[(.tmp 0 true [dI,dI,dI,dI]),(.tmp 1 true [dS,dS,dI,dO,(.dat (.list (.pair .str (.pair uI6 uI6)))),dI,dS,dI,(.dat (.list .str))]),(.tmp 2 true [dS,dI,dI])],[(.tmp 0 false [dI])],registrar_expiry⟩)::cons78
theorem cons77_ok:ConL Try.prog cons77:=⟨con78,cons78_ok⟩
theorem con77:ConOk Try.prog 77 ⟨[(.tmp 0 true [dS,dS,dI,dO,(.dat (.list (.pair .str (.pair uI6 uI6)))),dI,dS,dI,(.dat (.list .str))]),(.tmp 1 true [dS,dS,dI,dI,dI,dS,dI,dS,dI,(.dat (.list .str))])],[(.tmp 0 false [dO])],registrar_touches⟩ :=
 tree_ok (plan:=planOf plan77) (eg:=egNo) KK tabL_ok (conOf_ok cons77_ok) Try.func77 (by kernel_rfl) (by kernel_rfl) 10000 (fun a r h=>Eq.trans (show _=registrar_touches a from by kernel_rfl) h)
def plan67:List (Nat×PL):=[(134480385,(.carry [.row 4 76 UBd])),(18049651601311750,(.carry [.tmp 9 false [dI],.row 4 76 UBd]))]
noncomputable def registrar_copyOf:(List (LU×(LU×(Int×(Int×(Int×(LU×(Int×(LU×(Int×(List LU)))))))))))→Option (List (LU×(LU×(Int×(Int×(Int×(LU×(Int×(LU×(Int×(List LU))))))))))):=fun a1 =>
 bindO (cloneG a1) fun x2 =>
 joinO (loopO (fun (v3,v4) =>
 bif (decide (v3<(lI x2))) then
 bif (iR v3 x2) then
 bindO v4[(Int.toNat v3)]? fun x5 =>
 bindO (cloneG x5.2.2.2.2.2.2.2.2.2) fun x6 =>
 bif (iR v3 x2) then
 bindO v4[(Int.toNat v3)]? fun x7 =>
 bif (lE x6) then
 some (Sum.inl ((wI (v3+z1)),(List.set v4 (Int.toNat v3) (x7.1,(x7.2.1,(x7.2.2.1,(x7.2.2.2.1,(x7.2.2.2.2.1,(x7.2.2.2.2.2.1,(x7.2.2.2.2.2.2.1,(x7.2.2.2.2.2.2.2.1,(x7.2.2.2.2.2.2.2.2.1,(tA x6)))))))))))))
 else none
 else none
 else none
 else
 outO (some (Sum.inl v4))) (z0,x2)) fun v9 =>
 bif (decide ((List.length x2)≤(List.length v9))) then
 some (List.take (List.length x2) v9)
 else none
noncomputable def cons67:List (Nat×CE):=(77,⟨[(.tmp 0 true [dS,dS,dI,dO,(.dat (.list (.pair .str (.pair uI6 uI6)))),dI,dS,dI,(.dat (.list .str))]),(.tmp 1 true [dS,dS,dI,dI,dI,dS,dI,dS,dI,(.dat (.list .str))])],[(.tmp 0 false [dO])],registrar_touches⟩)::cons77
theorem cons67_ok:ConL Try.prog cons67:=⟨con77,cons77_ok⟩
theorem con67:ConOk Try.prog 67 ⟨[(.tmp 0 false [(.dat (.list UBd))])],[(.tmp 0 false [(.dat (.list UBd))])],registrar_copyOf⟩ :=
 tree_ok (plan:=planOf plan67) (eg:=egNo) KK tabL_ok (conOf_ok cons67_ok) Try.func67 (by kernel_rfl) (by kernel_rfl) 10000 (fun a r h=>Eq.trans (show _=registrar_copyOf a from by kernel_rfl) h)
def plan45:List (Nat×PL):=[(262657,(.carry [])),(35253226045953,(.carry [.tmp 13 false [dO],.tmp 12 false [(.own 10000002 76 UBd)]])),(4731607904558101301254,(.carry [.tmp 44 false [dI],.tmp 13 false [dO],.tmp 12 false [(.own 10000001 76 UBd)]])),(9241421688590303745,(.carry [.tmp 12 false [(.own 10000004 76 UBd)],.dead 10000002])),(1240362622532514091349837830,(.carry [.tmp 86 false [dI],.tmp 12 false [(.own 10000003 76 UBd)],.dead 10000002])),(2422583247133816584929793,(.carry [.tmp 19 false [dI]])),(325153619321163373997995722016774,(.carry [.tmp 132 false [dI],.tmp 19 false [dI]]))]
noncomputable def registrar_Update:((Int×(Int×(Int×Int)))×((List (LU×(LU×(Int×(Int×(Int×(LU×(Int×(LU×(Int×(List LU)))))))))))×(Int×(Int×(LU×(LU×(Int×(Bool×((List (LU×(Int×Int)))×(Int×(LU×(Int×(List LU)))))))))))))→Option ((List (LU×(LU×(Int×(Int×(Int×(LU×(Int×(LU×(Int×(List LU)))))))))))×Int):=fun ((a1,(a2,(a3,a4))),(a5,(a6,(a7,(a8,(a9,(a10,(a11,(a12,(a13,(a14,(a15,a16)))))))))))) =>
 joinO (bindO (registrar_Valid (a1,(a2,(a3,a4)))) fun x17 =>
 bif (!x17) then
 outO (some (([]:List (LU×(LU×(Int×(Int×(Int×(LU×(Int×(LU×(Int×(List LU))))))))))),(2:Int)))
 else
 bindO (registrar_Formed (a8,(a9,(a10,(a11,(a12,(a13,(a14,(a15,a16))))))))) fun x18 =>
 bif (!x18) then
 outO (some (([]:List (LU×(LU×(Int×(Int×(Int×(LU×(Int×(LU×(Int×(List LU))))))))))),(2:Int)))
 else
 bif (decide (a6<z0)) then
 outO (some (([]:List (LU×(LU×(Int×(Int×(Int×(LU×(Int×(LU×(Int×(List LU))))))))))),(2:Int)))
 else
 bif (decide (a6 > (1099511627776:Int))) then
 outO (some (([]:List (LU×(LU×(Int×(Int×(Int×(LU×(Int×(LU×(Int×(List LU))))))))))),(2:Int)))
 else
 bif (decide (a7<z0)) then
 outO (some (([]:List (LU×(LU×(Int×(Int×(Int×(LU×(Int×(LU×(Int×(List LU))))))))))),(2:Int)))
 else
 some (Sum.inl ())) fun _ =>
 joinO (loopO (fun (v19,(v20,v21)) =>
 bif (decide (v19<(lI a5))) then
 bif (iR v19 a5) then
 bindO a5[(Int.toNat v19)]? fun x22 =>
 bif (decide (x22.1≠a8)) then
 bif (lE v21) then
 bif (rO ((tA v21)++((x22.1,(x22.2.1,(x22.2.2.1,(x22.2.2.2.1,(x22.2.2.2.2.1,(x22.2.2.2.2.2.1,(x22.2.2.2.2.2.2.1,(x22.2.2.2.2.2.2.2.1,(x22.2.2.2.2.2.2.2.2.1,x22.2.2.2.2.2.2.2.2.2)))))))))::([]:List (LU×(LU×(Int×(Int×(Int×(LU×(Int×(LU×(Int×(List LU))))))))))))) 128) then
 bindO (some ((tA v21)++((x22.1,(x22.2.1,(x22.2.2.1,(x22.2.2.2.1,(x22.2.2.2.2.1,(x22.2.2.2.2.2.1,(x22.2.2.2.2.2.2.1,(x22.2.2.2.2.2.2.2.1,(x22.2.2.2.2.2.2.2.2.1,x22.2.2.2.2.2.2.2.2.2)))))))))::([]:List (LU×(LU×(Int×(Int×(Int×(LU×(Int×(LU×(Int×(List LU)))))))))))))) fun x23 =>
 bif (lE x23) then
 some (Sum.inl ((wI (v19+z1)),(v20,(tA x23))))
 else none
 else none
 else none
 else
 bif (decide (x22.2.2.2.1≤a6)) then
 bif (lE v21) then
 some (Sum.inl ((wI (v19+z1)),(v20,(tA v21))))
 else none
 else
 bindO (registrar_touches ((a8,(a9,(a10,(a11,(a12,(a13,(a14,(a15,a16)))))))),(x22.1,(x22.2.1,(x22.2.2.1,(x22.2.2.2.1,(x22.2.2.2.2.1,(x22.2.2.2.2.2.1,(x22.2.2.2.2.2.2.1,(x22.2.2.2.2.2.2.2.1,(x22.2.2.2.2.2.2.2.2.1,x22.2.2.2.2.2.2.2.2.2))))))))))) fun x26 =>
 bif (!x26) then
 bif (lE v21) then
 bif (rO ((tA v21)++((x22.1,(x22.2.1,(x22.2.2.1,(x22.2.2.2.1,(x22.2.2.2.2.1,(x22.2.2.2.2.2.1,(x22.2.2.2.2.2.2.1,(x22.2.2.2.2.2.2.2.1,(x22.2.2.2.2.2.2.2.2.1,x22.2.2.2.2.2.2.2.2.2)))))))))::([]:List (LU×(LU×(Int×(Int×(Int×(LU×(Int×(LU×(Int×(List LU))))))))))))) 128) then
 bindO (some ((tA v21)++((x22.1,(x22.2.1,(x22.2.2.1,(x22.2.2.2.1,(x22.2.2.2.2.1,(x22.2.2.2.2.2.1,(x22.2.2.2.2.2.2.1,(x22.2.2.2.2.2.2.2.1,(x22.2.2.2.2.2.2.2.2.1,x22.2.2.2.2.2.2.2.2.2)))))))))::([]:List (LU×(LU×(Int×(Int×(Int×(LU×(Int×(LU×(Int×(List LU)))))))))))))) fun x27 =>
 bif (lE x27) then
 some (Sum.inl ((wI (v19+z1)),(v20,(tA x27))))
 else none
 else none
 else none
 else
 bif (decide (x22.2.2.2.2.2.1=a9)) then
 bif (decide (x22.2.2.2.2.2.2.1≥a10)) then
 bif (lE v21) then
 some (Sum.inl ((wI (v19+z1)),(Bool.true,(tA v21))))
 else none
 else
 bif (lE v21) then
 some (Sum.inl ((wI (v19+z1)),(v20,(tA v21))))
 else none
 else
 bif (lE v21) then
 some (Sum.inl ((wI (v19+z1)),(v20,(tA v21))))
 else none
 else none
 else
 outO (bif (lE v21) then
 some (Sum.inl (v20,(tA v21)))
 else none)) (z0,(Bool.false,([]:List (LU×(LU×(Int×(Int×(Int×(LU×(Int×(LU×(Int×(List LU)))))))))))))) fun (v32,v33) =>
 bif v32 then
 some (([]:List (LU×(LU×(Int×(Int×(Int×(LU×(Int×(LU×(Int×(List LU))))))))))),(13:Int))
 else
 joinO (bif (lE v33) then
 loopO (fun (v34,v35) =>
 bif (decide (v34<(lI a12))) then
 bif (iR v34 a12) then
 bindO a12[(Int.toNat v34)]? fun x36 =>
 bindO (registrar_expiry ((a1,(a2,(a3,a4))),((a8,(a9,(a10,(a11,(a12,(a13,(a14,(a15,a16)))))))),(x36.1,(x36.2.1,x36.2.2))))) fun x37 =>
 bif (decide (x37 > z0)) then
 bif (decide (x37<a1)) then
 outO (outO (some (([]:List (LU×(LU×(Int×(Int×(Int×(LU×(Int×(LU×(Int×(List LU))))))))))),(16:Int))))
 else
 bif (decide (x37≠z0)) then
 bindO (some (wI (a6+(wI ((1000:Int)*x37))))) fun x39 =>
 bif (lE v35) then
 bif (rO ((tA v35)++((a8,(x36.1,(x36.2.1,(x39,(a7,(a9,(a10,(a14,(a15,a16)))))))))::([]:List (LU×(LU×(Int×(Int×(Int×(LU×(Int×(LU×(Int×(List LU))))))))))))) 128) then
 bindO (some ((tA v35)++((a8,(x36.1,(x36.2.1,(x39,(a7,(a9,(a10,(a14,(a15,a16)))))))))::([]:List (LU×(LU×(Int×(Int×(Int×(LU×(Int×(LU×(Int×(List LU)))))))))))))) fun x40 =>
 bif (lE x40) then
 some (Sum.inl ((wI (v34+z1)),(tA x40)))
 else none
 else none
 else none
 else
 bif (lE v35) then
 some (Sum.inl ((wI (v34+z1)),(tA v35)))
 else none
 else
 bif (decide (x37≠z0)) then
 bindO (some (wI (a6+(wI ((1000:Int)*x37))))) fun x44 =>
 bif (lE v35) then
 bif (rO ((tA v35)++((a8,(x36.1,(x36.2.1,(x44,(a7,(a9,(a10,(a14,(a15,a16)))))))))::([]:List (LU×(LU×(Int×(Int×(Int×(LU×(Int×(LU×(Int×(List LU))))))))))))) 128) then
 bindO (some ((tA v35)++((a8,(x36.1,(x36.2.1,(x44,(a7,(a9,(a10,(a14,(a15,a16)))))))))::([]:List (LU×(LU×(Int×(Int×(Int×(LU×(Int×(LU×(Int×(List LU)))))))))))))) fun x45 =>
 bif (lE x45) then
 some (Sum.inl ((wI (v34+z1)),(tA x45)))
 else none
 else none
 else none
 else
 bif (lE v35) then
 some (Sum.inl ((wI (v34+z1)),(tA v35)))
 else none
 else none
 else
 outO (bif (lE v35) then
 some (Sum.inl (tA v35))
 else none)) (z0,(tA v33))
 else none) fun v48 =>
 joinO (loopO (fun (v49,v50) =>
 bif (decide (v49<(lI v48))) then
 bif (iR v49 v48) then
 bindO v48[(Int.toNat v49)]? fun x51 =>
 bif (decide (x51.1=a8)) then
 some (Sum.inl ((wI (v49+z1)),(wI (v50+z1))))
 else
 some (Sum.inl ((wI (v49+z1)),v50))
 else none
 else
 outO (some (Sum.inl v50))) (z0,z0)) fun v55 =>
 bif (decide (v55 > a4)) then
 some (([]:List (LU×(LU×(Int×(Int×(Int×(LU×(Int×(LU×(Int×(List LU))))))))))),(10:Int))
 else
 bif (lE v48) then
 bindO (registrar_copyOf (tA v48)) fun x56 =>
 some (x56,z0)
 else none
noncomputable def cons45:List (Nat×CE):=(67,⟨[(.tmp 0 false [(.dat (.list UBd))])],[(.tmp 0 false [(.dat (.list UBd))])],registrar_copyOf⟩)::cons67
theorem cons45_ok:ConL Try.prog cons45:=⟨con67,cons67_ok⟩
theorem con45:ConOk Try.prog 45 ⟨[(.tmp 0 true [dI,dI,dI,dI]),(.tmp 1 false [(.dat (.list UBd))]),(.tmp 2 false [dI]),(.tmp 3 false [dI]),(.tmp 4 true [dS,dS,dI,dO,(.dat (.list (.pair .str (.pair uI6 uI6)))),dI,dS,dI,(.dat (.list .str))])],[(.tmp 0 false [(.dat (.list UBd))]),(.tmp 1 false [dE])],registrar_Update⟩ :=
 tree_ok (plan:=planOf plan45) (eg:=egNo) KK tabL_ok (conOf_ok cons45_ok) Try.func45 (by kernel_rfl) (by kernel_rfl) 10000 (fun a r h=>Eq.trans (show _=registrar_Update a from by kernel_rfl) h)
def plan44:List (Nat×PL):=[(134480385,(.carry [.tmp 7 false [(.own 10000002 76 UBd)]])),(18049651601311750,(.carry [.tmp 12 false [dI],.tmp 7 false [(.own 10000001 76 UBd)]]))]
noncomputable def registrar_Lookup:((List (LU×(LU×(Int×(Int×(Int×(LU×(Int×(LU×(Int×(List LU)))))))))))×(Int×LU))→Option (List (LU×(LU×(Int×(Int×(Int×(LU×(Int×(LU×(Int×(List LU))))))))))):=fun (a1,(a2,a3)) =>
 joinO (loopO (fun (v4,v5) =>
 bif (decide (v4<(lI a1))) then
 bif (iR v4 a1) then
 bindO a1[(Int.toNat v4)]? fun x6 =>
 bif (decide (x6.1=a3)) then
 bif (decide (x6.2.2.2.1 > a2)) then
 bif (lE v5) then
 bif (rO ((tA v5)++((x6.1,(x6.2.1,(x6.2.2.1,(x6.2.2.2.1,(x6.2.2.2.2.1,(x6.2.2.2.2.2.1,(x6.2.2.2.2.2.2.1,(x6.2.2.2.2.2.2.2.1,(x6.2.2.2.2.2.2.2.2.1,x6.2.2.2.2.2.2.2.2.2)))))))))::([]:List (LU×(LU×(Int×(Int×(Int×(LU×(Int×(LU×(Int×(List LU))))))))))))) 128) then
 bindO (some ((tA v5)++((x6.1,(x6.2.1,(x6.2.2.1,(x6.2.2.2.1,(x6.2.2.2.2.1,(x6.2.2.2.2.2.1,(x6.2.2.2.2.2.2.1,(x6.2.2.2.2.2.2.2.1,(x6.2.2.2.2.2.2.2.2.1,x6.2.2.2.2.2.2.2.2.2)))))))))::([]:List (LU×(LU×(Int×(Int×(Int×(LU×(Int×(LU×(Int×(List LU)))))))))))))) fun x7 =>
 bif (lE x7) then
 some (Sum.inl ((wI (v4+z1)),(tA x7)))
 else none
 else none
 else none
 else
 bif (lE v5) then
 some (Sum.inl ((wI (v4+z1)),(tA v5)))
 else none
 else
 bif (lE v5) then
 some (Sum.inl ((wI (v4+z1)),(tA v5)))
 else none
 else none
 else
 outO (bif (lE v5) then
 some (Sum.inl (tA v5))
 else none)) (z0,([]:List (LU×(LU×(Int×(Int×(Int×(LU×(Int×(LU×(Int×(List LU))))))))))))) fun v11 =>
 bif (lQ v11 v11) then
 bindO (slices_SortStableFunc___api_Binding_api_Binding v11) fun x12 =>
 bif (decide ((List.length v11)≤(List.length x12))) then
 bindO (registrar_copyOf (List.take (List.length v11) x12)) fun x13 =>
 some x13
 else none
 else none
noncomputable def cons44:List (Nat×CE):=(45,⟨[(.tmp 0 true [dI,dI,dI,dI]),(.tmp 1 false [(.dat (.list UBd))]),(.tmp 2 false [dI]),(.tmp 3 false [dI]),(.tmp 4 true [dS,dS,dI,dO,(.dat (.list (.pair .str (.pair uI6 uI6)))),dI,dS,dI,(.dat (.list .str))])],[(.tmp 0 false [(.dat (.list UBd))]),(.tmp 1 false [dE])],registrar_Update⟩)::cons45
theorem cons44_ok:ConL Try.prog cons44:=⟨con45,cons45_ok⟩
theorem con44:ConOk Try.prog 44 ⟨[(.tmp 0 false [(.dat (.list UBd))]),(.tmp 1 false [dI]),(.tmp 2 false [dS])],[(.tmp 0 false [(.dat (.list UBd))])],registrar_Lookup⟩ :=
 tree_ok (plan:=planOf plan44) (eg:=egNo) KK tabL_ok (conOf_ok cons44_ok) Try.func44 (by kernel_rfl) (by kernel_rfl) 10000 (fun a r h=>Eq.trans (show _=registrar_Lookup a from by kernel_rfl) h)
def plan49:List (Nat×PL):=[]
noncomputable def dialtoneref20_Append:(((List Int)×(Int×Int))×(Int×(List Int)))→Option (((List Int)×(Int×Int))×Int):=fun ((a1,(a2,a3)),(a4,a5)) =>
 bindO (dialtoneref20_Valid (a1,(a2,a3))) fun x6 =>
 bif (!x6) then
 some ((([]:List Int),((0:Int),(0:Int))),(2:Int))
 else
 bif (decide (a3=(1048576:Int))) then
 some ((([]:List Int),((0:Int),(0:Int))),(10:Int))
 else
 bindO (dialtoneref20_Encode (a3,(a4,a5))) fun (x8,x9) =>
 bif (decide (x9≠(0:Int))) then
 some ((([]:List Int),((0:Int),(0:Int))),x9)
 else
 bif (decide (((List.length a1)*1)≤140737488355328)) then
 bif (decide ((List.length a1)≤(List.length a1))) then
 bif (decide (((List.length ((List.take (List.length a1) a1)++x8))*1)≤140737488355328)) then
 bindO (some ((List.take (List.length a1) a1)++x8)) fun x11 =>
 bif (decide ((List.length x11)≤(List.length x11))) then
 some (((List.take (List.length x11) x11),(a2,(Go.IntKind.wrap .i64 (a3+(1:Int))))),(0:Int))
 else none
 else none
 else none
 else none
noncomputable def cons49:List (Nat×CE):=(44,⟨[(.tmp 0 false [(.dat (.list UBd))]),(.tmp 1 false [dI]),(.tmp 2 false [dS])],[(.tmp 0 false [(.dat (.list UBd))])],registrar_Lookup⟩)::cons44
theorem cons49_ok:ConL Try.prog cons49:=⟨con44,cons44_ok⟩
theorem con49:ConOk Try.prog 49 ⟨[(.tmp 0 true [dY,dI,dI]),(.tmp 1 true [dE,dY])],[(.tmp 0 true [dY,dI,dI]),(.tmp 1 false [dE])],dialtoneref20_Append⟩ :=
 tree_ok (plan:=planOf plan49) (eg:=egNo) KK tabL_ok (conOf_ok cons49_ok) Try.func49 (by kernel_rfl) (by kernel_rfl) 10000 (fun a r h=>Eq.trans (show _=dialtoneref20_Append a from by kernel_rfl) h)
def plan17:List (Nat×PL):=[]
noncomputable def dialtoneref20_Sync:((List Int)×(Int×Int))→Option ((List Int)×(Int×Int)):=fun (a1,(a2,a3)) =>
 bindO (dialtoneref20_Valid (a1,(a2,a3))) fun x4 =>
 bif (!x4) then
 some (([]:List Int),((0:Int),(0:Int)))
 else
 bif (decide (((List.length a1)*1)≤140737488355328)) then
 bif (decide ((List.length a1)≤(List.length a1))) then
 some ((List.take (List.length a1) a1),((((List.length a1):Nat):Int),a3))
 else none
 else none
noncomputable def cons17:List (Nat×CE):=(49,⟨[(.tmp 0 true [dY,dI,dI]),(.tmp 1 true [dE,dY])],[(.tmp 0 true [dY,dI,dI]),(.tmp 1 false [dE])],dialtoneref20_Append⟩)::cons49
theorem cons17_ok:ConL Try.prog cons17:=⟨con49,cons49_ok⟩
theorem con17:ConOk Try.prog 17 ⟨[(.tmp 0 true [dY,dI,dI])],[(.tmp 0 true [dY,dI,dI])],dialtoneref20_Sync⟩ :=
 tree_ok (plan:=planOf plan17) (eg:=egNo) KK tabL_ok (conOf_ok cons17_ok) Try.func17 (by kernel_rfl) (by kernel_rfl) 10000 (fun a r h=>Eq.trans (show _=dialtoneref20_Sync a from by kernel_rfl) h)
def plan82:List (Nat×PL):=[]
noncomputable def dialtoneref22_Expiry:((Int×(Int×(Int×Int)))×((LU×(LU×(Int×(Bool×((List (LU×(Int×Int)))×(Int×(LU×(Int×(List LU)))))))))×(LU×(Int×Int))))→Option Int:=fun ((a1,(a2,(a3,a4))),((a5,(a6,(a7,(a8,(a9,(a10,(a11,(a12,a13)))))))),(a14,(a15,a16)))) =>
 bif (decide (a16=(-1:Int))) then
 bif (decide (a10=(-1:Int))) then
 some (minA a2 a3)
 else
 some (minA a10 a3)
 else
 bif (decide (a16=(-1:Int))) then
 some (minA a2 a3)
 else
 some (minA a16 a3)
noncomputable def cons82:List (Nat×CE):=(17,⟨[(.tmp 0 true [dY,dI,dI])],[(.tmp 0 true [dY,dI,dI])],dialtoneref20_Sync⟩)::cons17
theorem cons82_ok:ConL Try.prog cons82:=⟨con17,cons17_ok⟩
theorem con82:ConOk Try.prog 82 ⟨[(.tmp 0 true [dI,dI,dI,dI]),(.tmp 1 true [dS,dS,dI,dO,(.dat (.list (.pair .str (.pair uI6 uI6)))),dI,dS,dI,(.dat (.list .str))]),(.tmp 2 true [dS,dI,dI])],[(.tmp 0 false [dI])],dialtoneref22_Expiry⟩ :=
 tree_ok (plan:=planOf plan82) (eg:=egNo) KK tabL_ok (conOf_ok cons82_ok) Try.func82 (by kernel_rfl) (by kernel_rfl) 10000 (fun a r h=>Eq.trans (show _=dialtoneref22_Expiry a from by kernel_rfl) h)
def plan81:List (Nat×PL):=[(68853957121,(.carry [])),(9241421688456087558,(.carry [.tmp 7 false [dI]]))]
noncomputable def dialtoneref22_touches:((LU×(LU×(Int×(Bool×((List (LU×(Int×Int)))×(Int×(LU×(Int×(List LU)))))))))×((LU×(LU×(Int×(Int×(Int×(LU×(Int×(LU×(Int×(List LU))))))))))×Int))→Option Bool:=fun ((a1,(a2,(a3,(a4,(a5,(a6,(a7,(a8,a9)))))))),((a10,(a11,(a12,(a13,(a14,(a15,(a16,(a17,(a18,a19))))))))),a20)) =>
 bif (decide (a10≠a1)) then
 some Bool.false
 else
 bif (decide (a13≤a20)) then
 some Bool.false
 else
 bif a4 then
 some Bool.true
 else
 joinO (loopO (fun v21 =>
 bif (decide (v21<(lI a5))) then
 bif (iR v21 a5) then
 bindO a5[(Int.toNat v21)]? fun x22 =>
 bif (decide (x22.1=a11)) then
 outO (outO (some Bool.true))
 else
 bif (decide (a8≠z0)) then
 bif (decide (a7=a17)) then
 bif (decide (a8=a18)) then
 outO (outO (some Bool.true))
 else
 some (Sum.inl (wI (v21+z1)))
 else
 some (Sum.inl (wI (v21+z1)))
 else
 some (Sum.inl (wI (v21+z1)))
 else none
 else
 outO (some (Sum.inl ()))) z0) fun _ =>
 some Bool.false
noncomputable def cons81:List (Nat×CE):=(82,⟨[(.tmp 0 true [dI,dI,dI,dI]),(.tmp 1 true [dS,dS,dI,dO,(.dat (.list (.pair .str (.pair uI6 uI6)))),dI,dS,dI,(.dat (.list .str))]),(.tmp 2 true [dS,dI,dI])],[(.tmp 0 false [dI])],dialtoneref22_Expiry⟩)::cons82
theorem cons81_ok:ConL Try.prog cons81:=⟨con82,cons82_ok⟩
theorem con81:ConOk Try.prog 81 ⟨[(.tmp 0 true [dS,dS,dI,dO,(.dat (.list (.pair .str (.pair uI6 uI6)))),dI,dS,dI,(.dat (.list .str))]),(.tmp 1 true [dS,dS,dI,dI,dI,dS,dI,dS,dI,(.dat (.list .str))]),(.tmp 2 false [dI])],[(.tmp 0 false [dO])],dialtoneref22_touches⟩ :=
 tree_ok (plan:=planOf plan81) (eg:=egNo) KK tabL_ok (conOf_ok cons81_ok) Try.func81 (by kernel_rfl) (by kernel_rfl) 10000 (fun a r h=>Eq.trans (show _=dialtoneref22_touches a from by kernel_rfl) h)
def plan83:List (Nat×PL):=[(134480385,(.carry [.tmp 7 false [dI]])),(18049651601311750,(.carry [.tmp 8 false [dI],.tmp 7 false [dI]]))]
noncomputable def dialtoneref22_Live:((List (LU×(LU×(Int×(Int×(Int×(LU×(Int×(LU×(Int×(List LU)))))))))))×(Int×LU))→Option Int:=fun (a1,(a2,a3)) =>
 joinO (loopO (fun (v4,v5) =>
 bif (decide (v4<(lI a1))) then
 bif (iR v4 a1) then
 bindO a1[(Int.toNat v4)]? fun x6 =>
 bif (decide (x6.1=a3)) then
 bif (iR v4 a1) then
 bindO a1[(Int.toNat v4)]? fun x7 =>
 bif (decide (x7.2.2.2.1 > a2)) then
 some (Sum.inl ((wI (v4+z1)),(wI (v5+z1))))
 else
 some (Sum.inl ((wI (v4+z1)),v5))
 else none
 else
 some (Sum.inl ((wI (v4+z1)),v5))
 else none
 else
 outO (some (Sum.inl v5))) (z0,z0)) fun v12 =>
 some v12
noncomputable def cons83:List (Nat×CE):=(81,⟨[(.tmp 0 true [dS,dS,dI,dO,(.dat (.list (.pair .str (.pair uI6 uI6)))),dI,dS,dI,(.dat (.list .str))]),(.tmp 1 true [dS,dS,dI,dI,dI,dS,dI,dS,dI,(.dat (.list .str))]),(.tmp 2 false [dI])],[(.tmp 0 false [dO])],dialtoneref22_touches⟩)::cons81
theorem cons83_ok:ConL Try.prog cons83:=⟨con81,cons81_ok⟩
theorem con83:ConOk Try.prog 83 ⟨[(.tmp 0 false [(.dat (.list UBd))]),(.tmp 1 false [dI]),(.tmp 2 false [dS])],[(.tmp 0 false [dI])],dialtoneref22_Live⟩ :=
 tree_ok (plan:=planOf plan83) (eg:=egNo) KK tabL_ok (conOf_ok cons83_ok) Try.func83 (by kernel_rfl) (by kernel_rfl) 10000 (fun a r h=>Eq.trans (show _=dialtoneref22_Live a from by kernel_rfl) h)
def plan48:List (Nat×PL):=[(262657,(.carry [])),(134480385,(.carry [])),(18049651601311750,(.carry [.tmp 12 false [dI]])),(68853957121,(.carry [])),(9241421688456087558,(.carry [.tmp 13 false [dI]])),(18049651735527937,(.carry [.tmp 15 false [(.own 10000002 76 UBd)]])),(2422583247133816450713606,(.carry [.tmp 16 false [dI],.tmp 15 false [(.own 10000001 76 UBd)]])),(9241421688590303745,(.carry [.tmp 15 false [(.own 10000004 76 UBd)],.dead 10000002])),(1240362622532514091349837830,(.carry [.tmp 17 false [dI],.tmp 15 false [(.own 10000003 76 UBd)],.dead 10000002]))]
noncomputable def dialtoneref22_Update:((Int×(Int×(Int×Int)))×((List (LU×(LU×(Int×(Int×(Int×(LU×(Int×(LU×(Int×(List LU)))))))))))×(Int×(Int×(LU×(LU×(Int×(Bool×((List (LU×(Int×Int)))×(Int×(LU×(Int×(List LU)))))))))))))→Option ((List (LU×(LU×(Int×(Int×(Int×(LU×(Int×(LU×(Int×(List LU)))))))))))×Int):=fun ((a1,(a2,(a3,a4))),(a5,(a6,(a7,(a8,(a9,(a10,(a11,(a12,(a13,(a14,(a15,a16)))))))))))) =>
 joinO (bindO (dialtoneref22_Valid (a1,(a2,(a3,a4)))) fun x17 =>
 bif (!x17) then
 outO (some (([]:List (LU×(LU×(Int×(Int×(Int×(LU×(Int×(LU×(Int×(List LU))))))))))),(2:Int)))
 else
 bindO (dialtoneref22_Formed (a8,(a9,(a10,(a11,(a12,(a13,(a14,(a15,a16))))))))) fun x18 =>
 bif (!x18) then
 outO (some (([]:List (LU×(LU×(Int×(Int×(Int×(LU×(Int×(LU×(Int×(List LU))))))))))),(2:Int)))
 else
 bindO (dialtoneref22_within (a6,(z0,(1099511627776:Int)))) fun x19 =>
 bif (!x19) then
 outO (some (([]:List (LU×(LU×(Int×(Int×(Int×(LU×(Int×(LU×(Int×(List LU))))))))))),(2:Int)))
 else
 bif (decide (a7<z0)) then
 outO (some (([]:List (LU×(LU×(Int×(Int×(Int×(LU×(Int×(LU×(Int×(List LU))))))))))),(2:Int)))
 else
 some (Sum.inl ())) fun _ =>
 joinO (loopO (fun v20 =>
 bif (decide (v20<(lI a5))) then
 bif (iR v20 a5) then
 bindO a5[(Int.toNat v20)]? fun x21 =>
 bindO (dialtoneref22_touches ((a8,(a9,(a10,(a11,(a12,(a13,(a14,(a15,a16)))))))),((x21.1,(x21.2.1,(x21.2.2.1,(x21.2.2.2.1,(x21.2.2.2.2.1,(x21.2.2.2.2.2.1,(x21.2.2.2.2.2.2.1,(x21.2.2.2.2.2.2.2.1,(x21.2.2.2.2.2.2.2.2.1,x21.2.2.2.2.2.2.2.2.2))))))))),a6))) fun x22 =>
 bif x22 then
 bif (iR v20 a5) then
 bindO a5[(Int.toNat v20)]? fun x23 =>
 bif (decide (x23.2.2.2.2.2.1=a9)) then
 bif (iR v20 a5) then
 bindO a5[(Int.toNat v20)]? fun x24 =>
 bif (decide (x24.2.2.2.2.2.2.1≥a10)) then
 outO (outO (some (([]:List (LU×(LU×(Int×(Int×(Int×(LU×(Int×(LU×(Int×(List LU))))))))))),(13:Int))))
 else
 some (Sum.inl (wI (v20+z1)))
 else none
 else
 some (Sum.inl (wI (v20+z1)))
 else none
 else
 some (Sum.inl (wI (v20+z1)))
 else none
 else
 outO (some (Sum.inl ()))) z0) fun _ =>
 joinO (loopO (fun v28 =>
 bif (decide (v28<(lI a12))) then
 bif (iR v28 a12) then
 bindO a12[(Int.toNat v28)]? fun x29 =>
 bindO (dialtoneref22_Expiry ((a1,(a2,(a3,a4))),((a8,(a9,(a10,(a11,(a12,(a13,(a14,(a15,a16)))))))),(x29.1,(x29.2.1,x29.2.2))))) fun x30 =>
 bif (decide (x30 > z0)) then
 bif (decide (x30<a1)) then
 outO (outO (some (([]:List (LU×(LU×(Int×(Int×(Int×(LU×(Int×(LU×(Int×(List LU))))))))))),(16:Int))))
 else
 some (Sum.inl (wI (v28+z1)))
 else
 some (Sum.inl (wI (v28+z1)))
 else none
 else
 outO (some (Sum.inl ()))) z0) fun _ =>
 joinO (loopO (fun (v33,v34) =>
 bif (decide (v33<(lI a5))) then
 bif (iR v33 a5) then
 bindO a5[(Int.toNat v33)]? fun x35 =>
 bif (decide (x35.1≠a8)) then
 bif (iR v33 a5) then
 bindO a5[(Int.toNat v33)]? fun x36 =>
 bif (lE v34) then
 bif (rO ((tA v34)++((x36.1,(x36.2.1,(x36.2.2.1,(x36.2.2.2.1,(x36.2.2.2.2.1,(x36.2.2.2.2.2.1,(x36.2.2.2.2.2.2.1,(x36.2.2.2.2.2.2.2.1,(x36.2.2.2.2.2.2.2.2.1,x36.2.2.2.2.2.2.2.2.2)))))))))::([]:List (LU×(LU×(Int×(Int×(Int×(LU×(Int×(LU×(Int×(List LU))))))))))))) 128) then
 bindO (some ((tA v34)++((x36.1,(x36.2.1,(x36.2.2.1,(x36.2.2.2.1,(x36.2.2.2.2.1,(x36.2.2.2.2.2.1,(x36.2.2.2.2.2.2.1,(x36.2.2.2.2.2.2.2.1,(x36.2.2.2.2.2.2.2.2.1,x36.2.2.2.2.2.2.2.2.2)))))))))::([]:List (LU×(LU×(Int×(Int×(Int×(LU×(Int×(LU×(Int×(List LU)))))))))))))) fun x37 =>
 bif (lE x37) then
 some (Sum.inl ((wI (v33+z1)),(tA x37)))
 else none
 else none
 else none
 else none
 else
 bif (iR v33 a5) then
 bindO a5[(Int.toNat v33)]? fun x39 =>
 bif (decide (x39.2.2.2.1 > a6)) then
 bif (iR v33 a5) then
 bindO a5[(Int.toNat v33)]? fun x40 =>
 bindO (dialtoneref22_touches ((a8,(a9,(a10,(a11,(a12,(a13,(a14,(a15,a16)))))))),((x40.1,(x40.2.1,(x40.2.2.1,(x40.2.2.2.1,(x40.2.2.2.2.1,(x40.2.2.2.2.2.1,(x40.2.2.2.2.2.2.1,(x40.2.2.2.2.2.2.2.1,(x40.2.2.2.2.2.2.2.2.1,x40.2.2.2.2.2.2.2.2.2))))))))),a6))) fun x41 =>
 bif (!x41) then
 bif (iR v33 a5) then
 bindO a5[(Int.toNat v33)]? fun x42 =>
 bif (lE v34) then
 bif (rO ((tA v34)++((x42.1,(x42.2.1,(x42.2.2.1,(x42.2.2.2.1,(x42.2.2.2.2.1,(x42.2.2.2.2.2.1,(x42.2.2.2.2.2.2.1,(x42.2.2.2.2.2.2.2.1,(x42.2.2.2.2.2.2.2.2.1,x42.2.2.2.2.2.2.2.2.2)))))))))::([]:List (LU×(LU×(Int×(Int×(Int×(LU×(Int×(LU×(Int×(List LU))))))))))))) 128) then
 bindO (some ((tA v34)++((x42.1,(x42.2.1,(x42.2.2.1,(x42.2.2.2.1,(x42.2.2.2.2.1,(x42.2.2.2.2.2.1,(x42.2.2.2.2.2.2.1,(x42.2.2.2.2.2.2.2.1,(x42.2.2.2.2.2.2.2.2.1,x42.2.2.2.2.2.2.2.2.2)))))))))::([]:List (LU×(LU×(Int×(Int×(Int×(LU×(Int×(LU×(Int×(List LU)))))))))))))) fun x43 =>
 bif (lE x43) then
 some (Sum.inl ((wI (v33+z1)),(tA x43)))
 else none
 else none
 else none
 else none
 else
 bif (lE v34) then
 some (Sum.inl ((wI (v33+z1)),(tA v34)))
 else none
 else none
 else
 bif (lE v34) then
 some (Sum.inl ((wI (v33+z1)),(tA v34)))
 else none
 else none
 else none
 else
 outO (bif (lE v34) then
 some (Sum.inl (tA v34))
 else none)) (z0,([]:List (LU×(LU×(Int×(Int×(Int×(LU×(Int×(LU×(Int×(List LU))))))))))))) fun v47 =>
 joinO (bif (lE v47) then
 loopO (fun (v48,v49) =>
 bif (decide (v48<(lI a12))) then
 bif (iR v48 a12) then
 bindO a12[(Int.toNat v48)]? fun x50 =>
 bindO (dialtoneref22_Expiry ((a1,(a2,(a3,a4))),((a8,(a9,(a10,(a11,(a12,(a13,(a14,(a15,a16)))))))),(x50.1,(x50.2.1,x50.2.2))))) fun x51 =>
 bif (decide (x51 > z0)) then
 bindO (dialtoneref22_Expiry ((a1,(a2,(a3,a4))),((a8,(a9,(a10,(a11,(a12,(a13,(a14,(a15,a16)))))))),(x50.1,(x50.2.1,x50.2.2))))) fun x52 =>
 bindO (some (wI (a6+(wI ((1000:Int)*x52))))) fun x54 =>
 bif (lE v49) then
 bif (rO ((tA v49)++((a8,(x50.1,(x50.2.1,(x54,(a7,(a9,(a10,(a14,(a15,a16)))))))))::([]:List (LU×(LU×(Int×(Int×(Int×(LU×(Int×(LU×(Int×(List LU))))))))))))) 128) then
 bindO (some ((tA v49)++((a8,(x50.1,(x50.2.1,(x54,(a7,(a9,(a10,(a14,(a15,a16)))))))))::([]:List (LU×(LU×(Int×(Int×(Int×(LU×(Int×(LU×(Int×(List LU)))))))))))))) fun x55 =>
 bif (lE x55) then
 some (Sum.inl ((wI (v48+z1)),(tA x55)))
 else none
 else none
 else none
 else
 bif (lE v49) then
 some (Sum.inl ((wI (v48+z1)),(tA v49)))
 else none
 else none
 else
 outO (bif (lE v49) then
 some (Sum.inl (tA v49))
 else none)) (z0,(tA v47))
 else none) fun v58 =>
 bif (lE v58) then
 bindO (dialtoneref22_Live ((tA v58),(a6,a8))) fun x59 =>
 bif (decide (x59 > a4)) then
 some (([]:List (LU×(LU×(Int×(Int×(Int×(LU×(Int×(LU×(Int×(List LU))))))))))),(10:Int))
 else
 bif (lE v58) then
 some ((tA v58),z0)
 else none
 else none
noncomputable def cons48:List (Nat×CE):=(83,⟨[(.tmp 0 false [(.dat (.list UBd))]),(.tmp 1 false [dI]),(.tmp 2 false [dS])],[(.tmp 0 false [dI])],dialtoneref22_Live⟩)::cons83
theorem cons48_ok:ConL Try.prog cons48:=⟨con83,cons83_ok⟩
theorem con48:ConOk Try.prog 48 ⟨[(.tmp 0 true [dI,dI,dI,dI]),(.tmp 1 false [(.dat (.list UBd))]),(.tmp 2 false [dI]),(.tmp 3 false [dI]),(.tmp 4 true [dS,dS,dI,dO,(.dat (.list (.pair .str (.pair uI6 uI6)))),dI,dS,dI,(.dat (.list .str))])],[(.tmp 0 false [(.dat (.list UBd))]),(.tmp 1 false [dE])],dialtoneref22_Update⟩ :=
 tree_ok (plan:=planOf plan48) (eg:=egNo) KK tabL_ok (conOf_ok cons48_ok) Try.func48 (by kernel_rfl) (by kernel_rfl) 10000 (fun a r h=>Eq.trans (show _=dialtoneref22_Update a from by kernel_rfl) h)
def plan80:List (Nat×PL):=[]
noncomputable def dialtoneref22_Before:((LU×(LU×(Int×(Int×(Int×(LU×(Int×(LU×(Int×(List LU))))))))))×(LU×(LU×(Int×(Int×(Int×(LU×(Int×(LU×(Int×(List LU)))))))))))→Option Bool:=fun ((a1,(a2,(a3,(a4,(a5,(a6,(a7,(a8,(a9,a10))))))))),(a11,(a12,(a13,(a14,(a15,(a16,(a17,(a18,(a19,a20)))))))))) =>
 bif (decide (a3≠a13)) then
 some (decide (a3 > a13))
 else
 bif (decide (a5≠a15)) then
 some (decide (a5 > a15))
 else
 some (Go.Op.bytesLess a2 a12)
noncomputable def cons80:List (Nat×CE):=(48,⟨[(.tmp 0 true [dI,dI,dI,dI]),(.tmp 1 false [(.dat (.list UBd))]),(.tmp 2 false [dI]),(.tmp 3 false [dI]),(.tmp 4 true [dS,dS,dI,dO,(.dat (.list (.pair .str (.pair uI6 uI6)))),dI,dS,dI,(.dat (.list .str))])],[(.tmp 0 false [(.dat (.list UBd))]),(.tmp 1 false [dE])],dialtoneref22_Update⟩)::cons48
theorem cons80_ok:ConL Try.prog cons80:=⟨con48,cons48_ok⟩
theorem con80:ConOk Try.prog 80 ⟨[(.tmp 0 true [dS,dS,dI,dI,dI,dS,dI,dS,dI,(.dat (.list .str))]),(.tmp 1 true [dS,dS,dI,dI,dI,dS,dI,dS,dI,(.dat (.list .str))])],[(.tmp 0 false [dO])],dialtoneref22_Before⟩ :=
 tree_ok (plan:=planOf plan80) (eg:=egNo) KK tabL_ok (conOf_ok cons80_ok) Try.func80 (by kernel_rfl) (by kernel_rfl) 10000 (fun a r h=>Eq.trans (show _=dialtoneref22_Before a from by kernel_rfl) h)
def plan47:List (Nat×PL):=[(134480385,(.carry [.tmp 7 false [(.own 10000003 76 UBd)]])),(18049651601311750,(.carry [.tmp 8 false [dI],.tmp 7 false [(.own 10000002 76 UBd)]])),(4731607869374267392513,(.carry [.tmp 7 false [(.own 10000001 76 UBd)],.drop 9,.dead 10000002])),(325153616903339494956772301734401,(.carry [.tmp 9 false [dI]])),(85237069749509028565948118265862555654,(.carry [.tmp 9 false [dI]]))]
noncomputable def dialtoneref22_Lookup:((List (LU×(LU×(Int×(Int×(Int×(LU×(Int×(LU×(Int×(List LU)))))))))))×(Int×LU))→Option (List (LU×(LU×(Int×(Int×(Int×(LU×(Int×(LU×(Int×(List LU))))))))))):=fun (a1,(a2,a3)) =>
 joinO (loopO (fun (v4,v5) =>
 bif (decide (v4<(lI a1))) then
 joinO (bif (iR v4 a1) then
 bindO a1[(Int.toNat v4)]? fun x6 =>
 bif (decide (x6.1≠a3)) then
 bif (lE v5) then
 some (Sum.inl (tA v5))
 else none
 else
 bif (iR v4 a1) then
 bindO a1[(Int.toNat v4)]? fun x7 =>
 bif (decide (x7.2.2.2.1≤a2)) then
 bif (lE v5) then
 some (Sum.inl (tA v5))
 else none
 else
 joinO (loopO (fun v8 =>
 bif (decide (v8 > z0)) then
 bif (iR v4 a1) then
 bindO a1[(Int.toNat v4)]? fun x9 =>
 bindO (some (wI (v8-z1))) fun x10 =>
 bif (iR x10 v5) then
 bindO v5[(Int.toNat x10)]? fun x11 =>
 bindO (dialtoneref22_Before ((x9.1,(x9.2.1,(x9.2.2.1,(x9.2.2.2.1,(x9.2.2.2.2.1,(x9.2.2.2.2.2.1,(x9.2.2.2.2.2.2.1,(x9.2.2.2.2.2.2.2.1,(x9.2.2.2.2.2.2.2.2.1,x9.2.2.2.2.2.2.2.2.2))))))))),(x11.1,(x11.2.1,(x11.2.2.1,(x11.2.2.2.1,(x11.2.2.2.2.1,(x11.2.2.2.2.2.1,(x11.2.2.2.2.2.2.1,(x11.2.2.2.2.2.2.2.1,(x11.2.2.2.2.2.2.2.2.1,x11.2.2.2.2.2.2.2.2.2))))))))))) fun x12 =>
 bif x12 then
 some (Sum.inl (wI (v8-z1)))
 else
 outO (some (Sum.inl v8))
 else none
 else none
 else
 outO (some (Sum.inl v8))) (lI v5)) fun v14 =>
 bif (decide ((z0≤v14)∧(v14≤(lI v5)))) then
 bif (decide ((Int.toNat v14)≤(List.length v5))) then
 bif (rO (List.take (Int.toNat v14) v5) 128) then
 bindO (some (List.take (Int.toNat v14) v5)) fun x15 =>
 bif (iR v4 a1) then
 bindO a1[(Int.toNat v4)]? fun x16 =>
 bif (lE x15) then
 bif (rO ((tA x15)++((x16.1,(x16.2.1,(x16.2.2.1,(x16.2.2.2.1,(x16.2.2.2.2.1,(x16.2.2.2.2.2.1,(x16.2.2.2.2.2.2.1,(x16.2.2.2.2.2.2.2.1,(x16.2.2.2.2.2.2.2.2.1,x16.2.2.2.2.2.2.2.2.2)))))))))::([]:List (LU×(LU×(Int×(Int×(Int×(LU×(Int×(LU×(Int×(List LU))))))))))))) 128) then
 bindO (some ((tA x15)++((x16.1,(x16.2.1,(x16.2.2.1,(x16.2.2.2.1,(x16.2.2.2.2.1,(x16.2.2.2.2.2.1,(x16.2.2.2.2.2.2.1,(x16.2.2.2.2.2.2.2.1,(x16.2.2.2.2.2.2.2.2.1,x16.2.2.2.2.2.2.2.2.2)))))))))::([]:List (LU×(LU×(Int×(Int×(Int×(LU×(Int×(LU×(Int×(List LU)))))))))))))) fun x17 =>
 bif (decide ((z0≤v14)∧(v14≤(lI v5)))) then
 bif ((decide (((Int.toNat v14)+((List.length v5)-(Int.toNat v14)))≤(List.length v5)))&&(lE x17)) then
 bif (rO ((tA x17)++(List.take ((List.length v5)-(Int.toNat v14)) (List.drop (Int.toNat v14) v5))) 128) then
 bindO (some ((tA x17)++(List.take ((List.length v5)-(Int.toNat v14)) (List.drop (Int.toNat v14) v5)))) fun x18 =>
 bif (lE x18) then
 some (Sum.inl (tA x18))
 else none
 else none
 else none
 else none
 else none
 else none
 else none
 else none
 else none
 else none
 else none
 else none) fun v19 =>
 bif (lE v19) then
 some (Sum.inl ((wI (v4+z1)),(tA v19)))
 else none
 else
 outO (bif (lE v5) then
 some (Sum.inl (tA v5))
 else none)) (z0,([]:List (LU×(LU×(Int×(Int×(Int×(LU×(Int×(LU×(Int×(List LU))))))))))))) fun v21 =>
 bif (lE v21) then
 some (tA v21)
 else none
noncomputable def cons47:List (Nat×CE):=(80,⟨[(.tmp 0 true [dS,dS,dI,dI,dI,dS,dI,dS,dI,(.dat (.list .str))]),(.tmp 1 true [dS,dS,dI,dI,dI,dS,dI,dS,dI,(.dat (.list .str))])],[(.tmp 0 false [dO])],dialtoneref22_Before⟩)::cons80
theorem cons47_ok:ConL Try.prog cons47:=⟨con80,cons80_ok⟩
theorem con47:ConOk Try.prog 47 ⟨[(.tmp 0 false [(.dat (.list UBd))]),(.tmp 1 false [dI]),(.tmp 2 false [dS])],[(.tmp 0 false [(.dat (.list UBd))])],dialtoneref22_Lookup⟩ :=
 tree_ok (plan:=planOf plan47) (eg:=egNo) KK tabL_ok (conOf_ok cons47_ok) Try.func47 (by kernel_rfl) (by kernel_rfl) 10000 (fun a r h=>Eq.trans (show _=dialtoneref22_Lookup a from by kernel_rfl) h)
def plan20:List (Nat×PL):=[(134480385,(.carry [])),(18049651601311750,(.carry [.tmp 5 false [dI]]))]
noncomputable def dialtoneref22_Same:((List (LU×(LU×(Int×(Int×(Int×(LU×(Int×(LU×(Int×(List LU)))))))))))×(List (LU×(LU×(Int×(Int×(Int×(LU×(Int×(LU×(Int×(List LU))))))))))))→Option Bool:=fun (a1,a2) =>
 bif (decide ((lI a1)≠(lI a2))) then
 some Bool.false
 else
 joinO (loopO (fun v3 =>
 bif (decide (v3<(lI a1))) then
 bif (iR v3 a1) then
 bindO a1[(Int.toNat v3)]? fun x4 =>
 bif (iR v3 a2) then
 bindO a2[(Int.toNat v3)]? fun x5 =>
 bif (decide (x4.1≠x5.1)) then
 outO (outO (some Bool.false))
 else
 bif (decide (x4.2.1≠x5.2.1)) then
 outO (outO (some Bool.false))
 else
 bif (decide (x4.2.2.1≠x5.2.2.1)) then
 outO (outO (some Bool.false))
 else
 bif (decide (x4.2.2.2.1≠x5.2.2.2.1)) then
 outO (outO (some Bool.false))
 else
 bif (decide (x4.2.2.2.2.1≠x5.2.2.2.2.1)) then
 outO (outO (some Bool.false))
 else
 bif (decide (x4.2.2.2.2.2.1≠x5.2.2.2.2.2.1)) then
 outO (outO (some Bool.false))
 else
 bif (decide (x4.2.2.2.2.2.2.1≠x5.2.2.2.2.2.2.1)) then
 outO (outO (some Bool.false))
 else
 bif (decide (x4.2.2.2.2.2.2.2.1≠x5.2.2.2.2.2.2.2.1)) then
 outO (outO (some Bool.false))
 else
 bif (decide (x4.2.2.2.2.2.2.2.2.1≠x5.2.2.2.2.2.2.2.2.1)) then
 outO (outO (some Bool.false))
 else
 bindO (dialtoneref22_strings (x4.2.2.2.2.2.2.2.2.2,x5.2.2.2.2.2.2.2.2.2)) fun x6 =>
 bif (!x6) then
 outO (outO (some Bool.false))
 else
 some (Sum.inl (wI (v3+z1)))
 else none
 else none
 else
 outO (some (Sum.inl ()))) z0) fun _ =>
 some Bool.true
noncomputable def cons20:List (Nat×CE):=(47,⟨[(.tmp 0 false [(.dat (.list UBd))]),(.tmp 1 false [dI]),(.tmp 2 false [dS])],[(.tmp 0 false [(.dat (.list UBd))])],dialtoneref22_Lookup⟩)::cons47
theorem cons20_ok:ConL Try.prog cons20:=⟨con47,cons47_ok⟩
theorem con20:ConOk Try.prog 20 ⟨[(.tmp 0 false [(.dat (.list UBd))]),(.tmp 1 false [(.dat (.list UBd))])],[(.tmp 0 false [dO])],dialtoneref22_Same⟩ :=
 tree_ok (plan:=planOf plan20) (eg:=egNo) KK tabL_ok (conOf_ok cons20_ok) Try.func20 (by kernel_rfl) (by kernel_rfl) 10000 (fun a r h=>Eq.trans (show _=dialtoneref22_Same a from by kernel_rfl) h)
def plan19:List (Nat×PL):=[]
noncomputable def dialtoneref22_Register:((Int×(Int×(Int×(Int×((List (LU×(LU×(Int×(Int×(Int×(LU×(Int×(LU×(Int×(List LU)))))))))))×(LN×(Int×(Int×Int))))))))×(Int×(LU×(LU×(Int×(Bool×((List (LU×(Int×Int)))×(Int×(LU×(Int×(List LU)))))))))))→Option ((Int×(Int×(Int×(Int×((List (LU×(LU×(Int×(Int×(Int×(LU×(Int×(LU×(Int×(List LU)))))))))))×(LN×(Int×(Int×Int))))))))×((List (LU×(LU×(Int×(Int×(Int×(LU×(Int×(LU×(Int×(List LU)))))))))))×Int)):=fun ((a1,(a2,(a3,(a4,(a5,(a6,(a7,(a8,a9)))))))),(a10,(a11,(a12,(a13,(a14,(a15,(a16,(a17,(a18,a19)))))))))) =>
 bindO (encR (a10,(a11,(a12,(a13,(a14,(a15,(a16,(a17,(a18,a19)))))))))) fun (x21,x22) =>
 bif (decide (x22≠z0)) then
 some ((a1,(a2,(a3,(a4,(a5,(a6,(a7,(a8,a9)))))))),(([]:List (LU×(LU×(Int×(Int×(Int×(LU×(Int×(LU×(Int×(List LU))))))))))),x22))
 else
 bif (decide (a10<a9)) then
 some ((a1,(a2,(a3,(a4,(a5,(a6,(a7,(a8,a9)))))))),(([]:List (LU×(LU×(Int×(Int×(Int×(LU×(Int×(LU×(Int×(List LU))))))))))),(9:Int)))
 else
 bif (!a14) then
 bif (decide ((lI a15)=z0)) then
 bindO (dialtoneref22_Lookup (a5,(a10,a11))) fun x23 =>
 some ((a1,(a2,(a3,(a4,(a5,(a6,(a7,(a8,a9)))))))),(x23,z0))
 else
 bindO (dialtoneref22_Update ((a1,(a2,(a3,a4))),(a5,(a10,(a8,(a11,(a12,(a13,(a14,(a15,(a16,(a17,(a18,a19))))))))))))) fun (x25,x26) =>
 bif (decide (x26≠z0)) then
 some ((a1,(a2,(a3,(a4,(a5,(a6,(a7,(a8,a9)))))))),(([]:List (LU×(LU×(Int×(Int×(Int×(LU×(Int×(LU×(Int×(List LU))))))))))),x26))
 else
 bindO (dialtoneref20_Append ((a6,(a7,a8)),(z1,x21))) fun ((x28,(x29,x30)),x31) =>
 bif (decide (x31≠z0)) then
 some ((a1,(a2,(a3,(a4,(a5,(a6,(a7,(a8,a9)))))))),(([]:List (LU×(LU×(Int×(Int×(Int×(LU×(Int×(LU×(Int×(List LU))))))))))),x31))
 else
 bindO (dialtoneref22_Lookup (x25,(a10,a11))) fun x32 =>
 some ((a1,(a2,(a3,(a4,(x25,(x28,(x29,(x30,a10)))))))),(x32,z0))
 else
 bindO (dialtoneref22_Update ((a1,(a2,(a3,a4))),(a5,(a10,(a8,(a11,(a12,(a13,(a14,(a15,(a16,(a17,(a18,a19))))))))))))) fun (x34,x35) =>
 bif (decide (x35≠z0)) then
 some ((a1,(a2,(a3,(a4,(a5,(a6,(a7,(a8,a9)))))))),(([]:List (LU×(LU×(Int×(Int×(Int×(LU×(Int×(LU×(Int×(List LU))))))))))),x35))
 else
 bindO (dialtoneref20_Append ((a6,(a7,a8)),(z1,x21))) fun ((x37,(x38,x39)),x40) =>
 bif (decide (x40≠z0)) then
 some ((a1,(a2,(a3,(a4,(a5,(a6,(a7,(a8,a9)))))))),(([]:List (LU×(LU×(Int×(Int×(Int×(LU×(Int×(LU×(Int×(List LU))))))))))),x40))
 else
 bindO (dialtoneref22_Lookup (x34,(a10,a11))) fun x41 =>
 some ((a1,(a2,(a3,(a4,(x34,(x37,(x38,(x39,a10)))))))),(x41,z0))
noncomputable def cons19:List (Nat×CE):=(20,⟨[(.tmp 0 false [(.dat (.list UBd))]),(.tmp 1 false [(.dat (.list UBd))])],[(.tmp 0 false [dO])],dialtoneref22_Same⟩)::cons20
theorem cons19_ok:ConL Try.prog cons19:=⟨con20,cons20_ok⟩
theorem con19:ConOk Try.prog 19 ⟨[(.tmp 0 true [dI,dI,dI,dI,(.dat (.list UBd)),dY,dI,dI,dI]),(.tmp 1 false [dI]),(.tmp 2 true [dS,dS,dI,dO,(.dat (.list (.pair .str (.pair uI6 uI6)))),dI,dS,dI,(.dat (.list .str))])],[(.tmp 0 true [dI,dI,dI,dI,(.dat (.list UBd)),dY,dI,dI,dI]),(.tmp 1 false [(.dat (.list UBd))]),(.tmp 2 false [dE])],dialtoneref22_Register⟩ :=
 tree_ok (plan:=planOf plan19) (eg:=egNo) KK tabL_ok (conOf_ok cons19_ok) Try.func19 (by kernel_rfl) (by kernel_rfl) 10000 (fun a r h=>Eq.trans (show _=dialtoneref22_Register a from by kernel_rfl) h)
end Go.Proofs.Ytlaccfegaoaakaa
