import Derived.Test.YtlaccfegaoaakaaB4p
import Derived.Test.YtlaccfegaoaakaaXBp
import Derived.Test.YtlaccfegaoaakaaA0p
import Derived.Test.YtlaccfegaoaakaaZ2p
import Derived.Test.YtlaccfegaoaakaaJ10p
import Derived.Test.YtlaccfegaoaakaaLp
import Derived.Test.YtlaccfegaoaakaaJ15p
set_option linter.unusedSectionVars false
set_option linter.unusedSimpArgs false
set_option linter.unusedVariables false
set_option maxRecDepth 1000000
set_option maxHeartbeats 0
namespace Go.Proofs.Ytlaccfegaoaakaa
open Go.RowKit
def planj94:List (Nat×PL):=[(134480385,(.carry [.tmp 3 false [(.dat (.int .u32))]])),(18049651601311750,(.carry [.tmp 9 false [(.dat (.int .i64))],.tmp 3 false [(.dat (.int .u32))]])),(2422583229119624904966657,(.carry [.tmp 3 false [(.dat (.int .u32))]])),(43641379711748622625774587972117695039494,(.carry [.tmp 17 false [(.dat (.int .i64))],.tmp 3 false [(.dat (.int .u32))]]))]
noncomputable def journal_Check:(List Int)→Option Int:=fun a1 =>
 joinO (loopO (fun (v2,v3) =>
 bif (decide (v2<(((List.length a1):Nat):Int))) then
 joinO (bif (decide (((0:Int)≤v2)∧(v2<(((List.length a1):Nat):Int)))) then
 bindO a1[(Int.toNat v2)]? fun x4 =>
 loopO (fun (v7,v8) =>
 bif (decide (v7<(8:Int))) then
 bindO (some (Go.IntKind.wrap .u32 (Int.tdiv v8 (2:Int)))) fun x10 =>
 bif (decide ((Go.IntKind.wrap .u32 (((BitVec.toNat ((BitVec.ofInt 32 v8) &&& (BitVec.ofInt 32 (1:Int)))):Nat):Int))=(1:Int))) then
 some (Sum.inl ((Go.IntKind.wrap .i64 (v7+(1:Int))),(Go.IntKind.wrap .u32 (((BitVec.toNat ((BitVec.ofInt 32 x10) ^^^ (BitVec.ofInt 32 (3988292384:Int)))):Nat):Int))))
 else
 some (Sum.inl ((Go.IntKind.wrap .i64 (v7+(1:Int))),x10))
 else
 outO (some (Sum.inl v8))) ((0:Int),(Go.IntKind.wrap .u32 (((BitVec.toNat ((BitVec.ofInt 32 v3) ^^^ (BitVec.ofInt 32 (Go.IntKind.wrap .u32 x4)))):Nat):Int)))
 else none) fun v14 =>
 some (Sum.inl ((Go.IntKind.wrap .i64 (v2+(1:Int))),v14))
 else
 outO (some (Sum.inl v3))) ((0:Int),(4294967295:Int))) fun v16 =>
 some (Go.IntKind.wrap .u32 (((BitVec.toNat ((BitVec.ofInt 32 (4294967295:Int)) ^^^ (BitVec.ofInt 32 v16))):Nat):Int))
noncomputable def consj94:List (Nat×CE):=[]
theorem consj94_ok:ConL Try.prog consj94:=trivial
noncomputable def cej94:CE:=⟨[(.tmp 0 false [(.dat (.list (.int .u8)))])],[(.tmp 0 false [(.dat (.int .u32))])],journal_Check⟩
theorem conj94:ConOk Try.prog 94 cej94 :=
 tree_ok (plan:=planOf planj94) (eg:=egNo) KK tabL_ok (conOf_ok consj94_ok) Try.func94 (by kernel_rfl) (by kernel_rfl) 10000 (fun a r h=>Eq.trans (show _=journal_Check a from by kernel_rfl) h)
def planj79:List (Nat×PL):=[(4731607904492334612511,(.carry [.tmp 0 false [(.own 10000005 5 (.int .u8))]])),(1240362622515238564662084097,(.carry [.tmp 0 false [(.own 10000004 5 (.int .u8))]])),(166478653090116965526926015110318086,(.carry [.tmp 10 false [(.dat (.int .i64))],.tmp 0 false [(.own 10000003 5 (.int .u8))]])),(22344386578255678367278332572200562860491265,(.carry [.tmp 0 false [(.own 10000002 5 (.int .u8))],.dead 10000003])),(786173211466051447306281901482090301346629135624380352518,(.carry [.tmp 7 false [(.dat (.int .i64))],.tmp 0 false [(.own 10000001 5 (.int .u8))],.dead 10000003])),(18049651735527445,(.carry [.tmp 0 false [(.own 10000006 5 (.int .u8))],.dead 22])),(4731607904558106542593,(.carry [.tmp 0 false [(.own 10000010 5 (.int .u8))],.dead 22])),(635065662736629904128633735174,(.carry [.tmp 10 false [(.dat (.int .i64))],.tmp 0 false [(.own 10000009 5 (.int .u8))],.dead 22])),(85237070383324728109003039679208227329,(.carry [.tmp 0 false [(.own 10000008 5 (.int .u8))],.dead 22,.dead 10000009])),(2999012800128859266877521744582980956552618278389766,(.carry [.tmp 7 false [(.dat (.int .i64))],.tmp 0 false [(.own 10000007 5 (.int .u8))],.dead 22,.dead 10000009]))]
noncomputable def journal_Encode:(Int×(Int×(List Int)))→Option ((List Int)×Int):=fun (a1,(a2,a3)) =>
 bif (decide (a1<(0:Int))) then
 some (([]:List Int),(3:Int))
 else
 bif (decide (a1 > (1048575:Int))) then
 some (([]:List Int),(3:Int))
 else
 bif (decide ((((List.length a3):Nat):Int) > (4096:Int))) then
 some (([]:List Int),(4:Int))
 else
 joinO (joinO (loopO (fun (v9,v10) =>
 bif (decide (v9<(5:Int))) then
 joinO (bif (decide (((0:Int)≤v9)∧(v9<(5:Int)))) then
 bindO (((167:Int),(1:Int))::(((Go.IntKind.wrap .u32 a2),(1:Int))::(((Go.IntKind.wrap .u32 a1),(4:Int))::(((Go.IntKind.wrap .u32 (((List.length a3):Nat):Int)),(2:Int))::(((Go.IntKind.wrap .u32 (Go.IntKind.wrap .i64 ((65535:Int)-(((List.length a3):Nat):Int)))),(2:Int))::([]:List (Int×Int)))))))[(Int.toNat v9)]? fun x11 =>
 bif (decide ((List.length v10)≤(List.length v10))) then
 loopO (fun (v13,v14) =>
 bif (decide (v13≥(0:Int))) then
 bindO (some (Go.IntKind.wrap .i64 ((8:Int)*v13))) fun x15 =>
 bif (decide ((0:Int)≤x15)) then
 bindO (some (Int.fdiv x11.1 ((2:Int) ^ (Min.min (Int.toNat x15) 32)))) fun x16 =>
 bif (decide ((List.length v14)≤(List.length v14))) then
 bif (decide (((List.length ((List.take (List.length v14) v14)++((Go.IntKind.wrap .u8 x16)::([]:List Int))))*1)≤140737488355328)) then
 bindO (some ((List.take (List.length v14) v14)++((Go.IntKind.wrap .u8 x16)::([]:List Int)))) fun x18 =>
 bif (decide ((List.length x18)≤(List.length x18))) then
 some (Sum.inl ((Go.IntKind.wrap .i64 (v13-(1:Int))),(List.take (List.length x18) x18)))
 else none
 else none
 else none
 else none
 else
 outO (bif (decide ((List.length v14)≤(List.length v14))) then
 some (Sum.inl (List.take (List.length v14) v14))
 else none)) ((Go.IntKind.wrap .i64 (x11.2-(1:Int))),(List.take (List.length v10) v10))
 else none
 else none) fun v20 =>
 bif (decide ((List.length v20)≤(List.length v20))) then
 some (Sum.inl ((Go.IntKind.wrap .i64 (v9+(1:Int))),(List.take (List.length v20) v20)))
 else none
 else
 outO (bif (decide ((List.length v10)≤(List.length v10))) then
 some (Sum.inl (List.take (List.length v10) v10))
 else none)) ((0:Int),([]:List Int))) fun v22 =>
 bif (decide ((List.length v22)≤(List.length v22))) then
 some (Sum.inl (List.take (List.length v22) v22))
 else none) fun v23 =>
 bif (decide ((List.length v23)≤(List.length v23))) then
 bif (decide (((List.length ((List.take (List.length v23) v23)++a3))*1)≤140737488355328)) then
 bindO (some ((List.take (List.length v23) v23)++a3)) fun x24 =>
 bif (decide ((List.length x24)≤(List.length x24))) then
 bindO (journal_Check (List.take (List.length x24) x24)) fun x25 =>
 joinO (joinO (bif (decide ((List.length x24)≤(List.length x24))) then
 loopO (fun (v26,v27) =>
 bif (decide (v26<(1:Int))) then
 joinO (bif (decide (((0:Int)≤v26)∧(v26<(1:Int)))) then
 bindO ((x25,(4:Int))::([]:List (Int×Int)))[(Int.toNat v26)]? fun x28 =>
 bif (decide ((List.length v27)≤(List.length v27))) then
 loopO (fun (v30,v31) =>
 bif (decide (v30≥(0:Int))) then
 bindO (some (Go.IntKind.wrap .i64 ((8:Int)*v30))) fun x32 =>
 bif (decide ((0:Int)≤x32)) then
 bindO (some (Int.fdiv x28.1 ((2:Int) ^ (Min.min (Int.toNat x32) 32)))) fun x33 =>
 bif (decide ((List.length v31)≤(List.length v31))) then
 bif (decide (((List.length ((List.take (List.length v31) v31)++((Go.IntKind.wrap .u8 x33)::([]:List Int))))*1)≤140737488355328)) then
 bindO (some ((List.take (List.length v31) v31)++((Go.IntKind.wrap .u8 x33)::([]:List Int)))) fun x35 =>
 bif (decide ((List.length x35)≤(List.length x35))) then
 some (Sum.inl ((Go.IntKind.wrap .i64 (v30-(1:Int))),(List.take (List.length x35) x35)))
 else none
 else none
 else none
 else none
 else
 outO (bif (decide ((List.length v31)≤(List.length v31))) then
 some (Sum.inl (List.take (List.length v31) v31))
 else none)) ((Go.IntKind.wrap .i64 (x28.2-(1:Int))),(List.take (List.length v27) v27))
 else none
 else none) fun v37 =>
 bif (decide ((List.length v37)≤(List.length v37))) then
 some (Sum.inl ((Go.IntKind.wrap .i64 (v26+(1:Int))),(List.take (List.length v37) v37)))
 else none
 else
 outO (bif (decide ((List.length v27)≤(List.length v27))) then
 some (Sum.inl (List.take (List.length v27) v27))
 else none)) ((0:Int),(List.take (List.length x24) x24))
 else none) fun v39 =>
 bif (decide ((List.length v39)≤(List.length v39))) then
 some (Sum.inl (List.take (List.length v39) v39))
 else none) fun v40 =>
 bif (decide ((List.length v40)≤(List.length v40))) then
 some ((List.take (List.length v40) v40),(0:Int))
 else none
 else none
 else none
 else none
noncomputable def consj79:List (Nat×CE):=[(94,cej94)]
theorem consj79_ok:ConL Try.prog consj79:=⟨conj94,trivial⟩
noncomputable def cej79:CE:=⟨[(.tmp 0 false [(.dat (.int .i64))]),(.tmp 1 true [(.dat (.int .u8)),(.dat (.list (.int .u8)))])],[(.tmp 0 false [(.dat (.list (.int .u8)))]),(.tmp 1 false [(.dat (.int .u8))])],journal_Encode⟩
theorem conj79:ConOk Try.prog 79 cej79 :=
 tree_ok (plan:=planOf planj79) (eg:=egNo) KK tabL_ok (conOf_ok consj79_ok) Try.func79 (by kernel_rfl) (by kernel_rfl) 10000 (fun a r h=>Eq.trans (show _=journal_Encode a from by kernel_rfl) h)
def planj69:List (Nat×PL):=[]
noncomputable def journal_joined:((List Int)×(List Int))→Option (List Int):=fun (a1,a2) =>
 bindO (some (Go.IntKind.wrap .i64 ((((List.length a1):Nat):Int)+(((List.length a2):Nat):Int)))) fun x3 =>
 bif (decide (((0:Int)≤x3)∧((x3≤x3)∧(((x3*(1:Int))≤(140737488355328:Int))∧(x3≤(9223372036854775807:Int)))))) then
 bif (decide ((Int.toNat x3)≤(List.length (List.replicate (Int.toNat x3) (0:Int))))) then
 bif (decide (((0:Int)≤(((List.length a1):Nat):Int))∧((((List.length a1):Nat):Int)≤(((Int.toNat x3):Nat):Int)))) then
 bif (decide (((Int.toNat (((List.length a1):Nat):Int))+((Int.toNat x3)-(Int.toNat (((List.length a1):Nat):Int))))≤(List.length (layL (List.replicate (Int.toNat x3) (0:Int)) 0 (List.take (Int.toNat x3) a1))))) then
 bif (decide ((Int.toNat x3)≤(List.length (layL (layL (List.replicate (Int.toNat x3) (0:Int)) 0 (List.take (Int.toNat x3) a1)) (Int.toNat (((List.length a1):Nat):Int)) (List.take ((Int.toNat x3)-(Int.toNat (((List.length a1):Nat):Int))) a2))))) then
 some (List.take (Int.toNat x3) (layL (layL (List.replicate (Int.toNat x3) (0:Int)) 0 (List.take (Int.toNat x3) a1)) (Int.toNat (((List.length a1):Nat):Int)) (List.take ((Int.toNat x3)-(Int.toNat (((List.length a1):Nat):Int))) a2)))
 else none
 else none
 else none
 else none
 else none
noncomputable def consj69:List (Nat×CE):=[]
theorem consj69_ok:ConL Try.prog consj69:=trivial
noncomputable def cej69:CE:=⟨[(.tmp 0 false [(.dat (.list (.int .u8)))]),(.tmp 1 false [(.dat (.list (.int .u8)))])],[(.tmp 0 false [(.dat (.list (.int .u8)))])],journal_joined⟩
theorem conj69:ConOk Try.prog 69 cej69 :=
 tree_ok (plan:=planOf planj69) (eg:=egNo) KK tabL_ok (conOf_ok consj69_ok) Try.func69 (by kernel_rfl) (by kernel_rfl) 10000 (fun a r h=>Eq.trans (show _=journal_joined a from by kernel_rfl) h)
def planj68:List (Nat×PL):=[]
noncomputable def journal_Valid:((List Int)×(Int×Int))→Option Bool:=fun (a1,(a2,a3)) =>
 bif (decide (a2≥(0:Int))) then
 bif (decide (a2≤(((List.length a1):Nat):Int))) then
 bif (decide (a3≥(0:Int))) then
 some (decide (a3≤(1048576:Int)))
 else
 some Bool.false
 else
 some Bool.false
 else
 some Bool.false
noncomputable def consj68:List (Nat×CE):=[]
theorem consj68_ok:ConL Try.prog consj68:=trivial
noncomputable def cej68:CE:=⟨[(.tmp 0 true [(.dat (.list (.int .u8))),(.dat (.int .i64)),(.dat (.int .i64))])],[(.tmp 0 false [(.dat .bool)])],journal_Valid⟩
theorem conj68:ConOk Try.prog 68 cej68 :=
 tree_ok (plan:=planOf planj68) (eg:=egNo) KK tabL_ok (conOf_ok consj68_ok) Try.func68 (by kernel_rfl) (by kernel_rfl) 10000 (fun a r h=>Eq.trans (show _=journal_Valid a from by kernel_rfl) h)
def planj46:List (Nat×PL):=[]
noncomputable def journal_Append:(((List Int)×(Int×Int))×(Int×(List Int)))→Option (((List Int)×(Int×Int))×Int):=fun ((a1,(a2,a3)),(a4,a5)) =>
 bindO (journal_Valid (a1,(a2,a3))) fun x6 =>
 bif (!x6) then
 some ((([]:List Int),((0:Int),(0:Int))),(2:Int))
 else
 bif (decide (a3≥(1048576:Int))) then
 some ((([]:List Int),((0:Int),(0:Int))),(10:Int))
 else
 bindO (journal_Encode (a3,(a4,a5))) fun (x8,x9) =>
 bif (decide (x9≠(0:Int))) then
 some ((([]:List Int),((0:Int),(0:Int))),x9)
 else
 bindO (journal_joined (a1,x8)) fun x10 =>
 some ((x10,(a2,(Go.IntKind.wrap .i64 (a3+(1:Int))))),(0:Int))
noncomputable def consj46:List (Nat×CE):=[(68,cej68),(69,cej69),(79,cej79)]
theorem consj46_ok:ConL Try.prog consj46:=⟨conj68,conj69,conj79,trivial⟩
noncomputable def cej46:CE:=⟨[(.tmp 0 true [(.dat (.list (.int .u8))),(.dat (.int .i64)),(.dat (.int .i64))]),(.tmp 1 true [(.dat (.int .u8)),(.dat (.list (.int .u8)))])],[(.tmp 0 true [(.dat (.list (.int .u8))),(.dat (.int .i64)),(.dat (.int .i64))]),(.tmp 1 false [(.dat (.int .u8))])],journal_Append⟩
theorem conj46:ConOk Try.prog 46 cej46 :=
 tree_ok (plan:=planOf planj46) (eg:=egNo) KK tabL_ok (conOf_ok consj46_ok) Try.func46 (by kernel_rfl) (by kernel_rfl) 10000 (fun a r h=>Eq.trans (show _=journal_Append a from by kernel_rfl) h)
def planj41:List (Nat×PL):=[]
noncomputable def journal_Sync:((List Int)×(Int×Int))→Option ((List Int)×(Int×Int)):=fun (a1,(a2,a3)) =>
 bindO (journal_Valid (a1,(a2,a3))) fun x4 =>
 bif (!x4) then
 some (([]:List Int),((0:Int),(0:Int)))
 else
 bindO (journal_joined (a1,([]:List Int))) fun x5 =>
 some (x5,((((List.length a1):Nat):Int),a3))
noncomputable def consj41:List (Nat×CE):=[(68,cej68),(69,cej69)]
theorem consj41_ok:ConL Try.prog consj41:=⟨conj68,conj69,trivial⟩
noncomputable def cej41:CE:=⟨[(.tmp 0 true [(.dat (.list (.int .u8))),(.dat (.int .i64)),(.dat (.int .i64))])],[(.tmp 0 true [(.dat (.list (.int .u8))),(.dat (.int .i64)),(.dat (.int .i64))])],journal_Sync⟩
theorem conj41:ConOk Try.prog 41 cej41 :=
 tree_ok (plan:=planOf planj41) (eg:=egNo) KK tabL_ok (conOf_ok consj41_ok) Try.func41 (by kernel_rfl) (by kernel_rfl) 10000 (fun a r h=>Eq.trans (show _=journal_Sync a from by kernel_rfl) h)
def planj32:List (Nat×PL):=[]
noncomputable def journal_Crash:(((List Int)×(Int×Int))×Int)→Option (List Int):=fun ((a1,(a2,a3)),a4) =>
 bindO (journal_Valid (a1,(a2,a3))) fun x5 =>
 bif (!x5) then
 some ([]:List Int)
 else
 bif ((decide (((0:Int)≤(minA (maxA a2 a4) (((List.length a1):Nat):Int)))∧((minA (maxA a2 a4) (((List.length a1):Nat):Int))≤(((List.length a1):Nat):Int))))&&(decide (((0:Int)≤(minA (maxA a2 a4) (((List.length a1):Nat):Int)))∧((minA (maxA a2 a4) (((List.length a1):Nat):Int))≤(((Int.toNat (minA (maxA a2 a4) (((List.length a1):Nat):Int))):Nat):Int))))) then
 bindO (journal_joined ((List.take (Int.toNat (minA (maxA a2 a4) (((List.length a1):Nat):Int))) a1),([]:List Int))) fun x7 =>
 some x7
 else none
noncomputable def consj32:List (Nat×CE):=[(68,cej68),(69,cej69)]
theorem consj32_ok:ConL Try.prog consj32:=⟨conj68,conj69,trivial⟩
noncomputable def cej32:CE:=⟨[(.tmp 0 true [(.dat (.list (.int .u8))),(.dat (.int .i64)),(.dat (.int .i64))]),(.tmp 1 false [(.dat (.int .i64))])],[(.tmp 0 false [(.dat (.list (.int .u8)))])],journal_Crash⟩
theorem conj32:ConOk Try.prog 32 cej32 :=
 tree_ok (plan:=planOf planj32) (eg:=egNo) KK tabL_ok (conOf_ok consj32_ok) Try.func32 (by kernel_rfl) (by kernel_rfl) 10000 (fun a r h=>Eq.trans (show _=journal_Crash a from by kernel_rfl) h)
def planj100:List (Nat×PL):=[(134480385,(.carry [.tmp 5 false [(.dat (.int .i64))]])),(4731607904491797741599,(.carry [.tmp 0 false [(.own 10000005 5 (.int .u8))]])),(1240362622515097827173728769,(.carry [.tmp 0 false [(.own 10000004 5 (.int .u8))]])),(35253226045953,(.carry [])),(166478653090098076060994536529463302,(.carry [.tmp 10 false [(.dat (.int .i64))],.tmp 0 false [(.own 10000003 5 (.int .u8))]])),(4731607904558101301254,(.carry [.tmp 29 false [(.dat (.int .i64))]])),(22344386578253143066077876113397569454080513,(.carry [.tmp 0 false [(.own 10000002 5 (.int .u8))],.dead 10000003])),(22344386578566252773887596188391760879421441,(.carry [.tmp 42 false [(.dat .bool)]])),(786173211465962244325487778989524158473538542178356430854,(.carry [.tmp 7 false [(.dat (.int .i64))],.tmp 0 false [(.own 10000001 5 (.int .u8))],.dead 10000003])),(5857446875251671767157990015209769763975054231041,(.carry [.tmp 46 false [(.dat .bool)]]))]
noncomputable def journal_begins:((List Int)×Int)→Option Bool:=fun (a1,a2) =>
 joinO (bif (decide ((((List.length a1):Nat):Int)≥(8:Int))) then
 bif (decide (((0:Int)≤(6:Int))∧((6:Int)<(((List.length a1):Nat):Int)))) then
 bindO a1[6]? fun x3 =>
 bif (decide (((0:Int)≤(7:Int))∧((7:Int)<(((List.length a1):Nat):Int)))) then
 bindO a1[7]? fun x6 =>
 bindO (some (Go.IntKind.wrap .i64 (((BitVec.toNat ((BitVec.ofInt 64 (Go.IntKind.wrap .i64 ((Go.IntKind.wrap .i64 x3)*(256:Int)))) ||| (BitVec.ofInt 64 (Go.IntKind.wrap .i64 x6)))):Nat):Int))) fun x8 =>
 bif (decide (x8 > (4096:Int))) then
 outO (some Bool.false)
 else
 some (Sum.inl x8)
 else none
 else none
 else
 some (Sum.inl (0:Int))) fun v9 =>
 joinO (joinO (loopO (fun (v14,v15) =>
 bif (decide (v14<(5:Int))) then
 joinO (bif (decide (((0:Int)≤v14)∧(v14<(5:Int)))) then
 bindO (((167:Int),(1:Int))::(((0:Int),(1:Int))::(((Go.IntKind.wrap .u32 a2),(4:Int))::(((Go.IntKind.wrap .u32 v9),(2:Int))::(((Go.IntKind.wrap .u32 (Go.IntKind.wrap .i64 ((65535:Int)-v9))),(2:Int))::([]:List (Int×Int)))))))[(Int.toNat v14)]? fun x16 =>
 bif (decide ((List.length v15)≤(List.length v15))) then
 loopO (fun (v18,v19) =>
 bif (decide (v18≥(0:Int))) then
 bindO (some (Go.IntKind.wrap .i64 ((8:Int)*v18))) fun x20 =>
 bif (decide ((0:Int)≤x20)) then
 bindO (some (Int.fdiv x16.1 ((2:Int) ^ (Min.min (Int.toNat x20) 32)))) fun x21 =>
 bif (decide ((List.length v19)≤(List.length v19))) then
 bif (decide (((List.length ((List.take (List.length v19) v19)++((Go.IntKind.wrap .u8 x21)::([]:List Int))))*1)≤140737488355328)) then
 bindO (some ((List.take (List.length v19) v19)++((Go.IntKind.wrap .u8 x21)::([]:List Int)))) fun x23 =>
 bif (decide ((List.length x23)≤(List.length x23))) then
 some (Sum.inl ((Go.IntKind.wrap .i64 (v18-(1:Int))),(List.take (List.length x23) x23)))
 else none
 else none
 else none
 else none
 else
 outO (bif (decide ((List.length v19)≤(List.length v19))) then
 some (Sum.inl (List.take (List.length v19) v19))
 else none)) ((Go.IntKind.wrap .i64 (x16.2-(1:Int))),(List.take (List.length v15) v15))
 else none
 else none) fun v25 =>
 bif (decide ((List.length v25)≤(List.length v25))) then
 some (Sum.inl ((Go.IntKind.wrap .i64 (v14+(1:Int))),(List.take (List.length v25) v25)))
 else none
 else
 outO (bif (decide ((List.length v15)≤(List.length v15))) then
 some (Sum.inl (List.take (List.length v15) v15))
 else none)) ((0:Int),([]:List Int))) fun v27 =>
 bif (decide ((List.length v27)≤(List.length v27))) then
 some (Sum.inl (List.take (List.length v27) v27))
 else none) fun v28 =>
 joinO (loopO (fun v29 =>
 bif (decide (v29<(minA (((List.length a1):Nat):Int) (10:Int)))) then
 joinO (bif (decide (v29=(1:Int))) then
 some (Sum.inl Bool.true)
 else
 bif (decide (v29=(6:Int))) then
 some (Sum.inl Bool.true)
 else
 some (Sum.inl (decide (v29=(7:Int))))) fun v30 =>
 bif v30 then
 some (Sum.inl (Go.IntKind.wrap .i64 (v29+(1:Int))))
 else
 joinO (bif (decide (v29=(8:Int))) then
 some (Sum.inl Bool.true)
 else
 some (Sum.inl (decide (v29=(9:Int))))) fun v32 =>
 bif v32 then
 bif (decide (((0:Int)≤v29)∧(v29<(((List.length a1):Nat):Int)))) then
 bindO a1[(Int.toNat v29)]? fun x33 =>
 bindO (some (Go.IntKind.wrap .i64 (v29-(2:Int)))) fun x34 =>
 bif (decide (((0:Int)≤x34)∧(x34<(((List.length a1):Nat):Int)))) then
 bindO a1[(Int.toNat x34)]? fun x35 =>
 bif (decide (x33≠(Go.IntKind.wrap .u8 ((255:Int)-x35)))) then
 outO (outO (some Bool.false))
 else
 some (Sum.inl (Go.IntKind.wrap .i64 (v29+(1:Int))))
 else none
 else none
 else
 bif (decide (((0:Int)≤v29)∧(v29<(((List.length a1):Nat):Int)))) then
 bindO a1[(Int.toNat v29)]? fun x38 =>
 bif (decide (((0:Int)≤v29)∧(v29<(((List.length v28):Nat):Int)))) then
 bindO v28[(Int.toNat v29)]? fun x39 =>
 bif (decide (x38≠x39)) then
 outO (outO (some Bool.false))
 else
 some (Sum.inl (Go.IntKind.wrap .i64 (v29+(1:Int))))
 else none
 else none
 else
 outO (some (Sum.inl ()))) (0:Int)) fun _ =>
 some Bool.true
noncomputable def consj100:List (Nat×CE):=[]
theorem consj100_ok:ConL Try.prog consj100:=trivial
noncomputable def cej100:CE:=⟨[(.tmp 0 false [(.dat (.list (.int .u8)))]),(.tmp 1 false [(.dat (.int .i64))])],[(.tmp 0 false [(.dat .bool)])],journal_begins⟩
theorem conj100:ConOk Try.prog 100 cej100 :=
 tree_ok (plan:=planOf planj100) (eg:=egNo) KK tabL_ok (conOf_ok consj100_ok) Try.func100 (by kernel_rfl) (by kernel_rfl) 10000 (fun a r h=>Eq.trans (show _=journal_begins a from by kernel_rfl) h)
def planj85:List (Nat×PL):=[(68853957121,(.carry [.tmp 6 false [(.own 10000002 91 (.pair (.int .u8) (.list (.int .u8))))],.mix 5 [(.dat (.list (.int .u8))),(.dat (.int .i64))]])),(18049651735267334,(.carry [.tmp 6 false [(.own 10000001 91 (.pair (.int .u8) (.list (.int .u8))))],.mix 5 [(.dat (.list (.int .u8))),(.dat (.int .i64))]])),(635065662727478061920772423698,(.carry [.tmp 0 true [(.dat (.int .u8)),(.dat (.list (.int .u8)))],.tmp 1 false [(.dat (.int .u8))],.mix 5 [(.dat (.list (.int .u8))),(.dat (.int .i64))]])),(1535494553643848147957046146350893561080790863294234647,(.carry [.tmp 0 false [(.own 10000007 5 (.int .u8))]])),(402520684270412928898051904989008641675962840067403847303681,(.carry [.tmp 0 false [(.own 10000006 5 (.int .u8))]])),(54025411715780160938522070313696604858113844606274311243558855903238,(.carry [.tmp 10 false [(.dat (.int .i64))],.tmp 0 false [(.own 10000005 5 (.int .u8))]])),(7251168014756594948642779955360605585369802588399192599875324273611992465921,(.carry [.tmp 0 false [(.own 10000004 5 (.int .u8))],.dead 10000005])),(255127793509833283213226307541386370055522207196370380466337639895518932455627391984994310,(.carry [.tmp 7 false [(.dat (.int .i64))],.tmp 0 false [(.own 10000003 5 (.int .u8))],.dead 10000005]))]
noncomputable def journal_Scan:(List Int)→Option ((List (Int×(List Int)))×(Int×Int)):=fun a1 =>
 joinO (loopO (fun (v2,(v3,v4)) =>
 bif (decide (v4<(((List.length a1):Nat):Int))) then
 bif (decide ((((List.length v2):Nat):Int)≥(1048576:Int))) then
 outO (outO (bif (decide ((List.length v2)≤(List.length v2))) then
 some ((List.take (List.length v2) v2),(v4,(5:Int)))
 else none))
 else
 joinO (bif ((decide (((0:Int)≤(((List.length v3):Nat):Int))∧((((List.length v3):Nat):Int)≤(((List.length v3):Nat):Int))))&&((decide (((0:Int)≤(((List.length v3):Nat):Int))∧((((List.length v3):Nat):Int)≤(((Int.toNat (((List.length v3):Nat):Int)):Nat):Int))))&&(decide (((0:Int)≤v4)∧(v4≤(((Int.toNat (((List.length v3):Nat):Int)):Nat):Int)))))) then
 bindO (some (List.take ((Int.toNat (((List.length v3):Nat):Int))-(Int.toNat v4)) (List.drop (Int.toNat v4) v3))) fun x5 =>
 bindO (journal_begins (x5,(((List.length v2):Nat):Int))) fun x6 =>
 bif (!x6) then
 some (Sum.inl (((0:Int),([]:List Int)),((5:Int),(v3,v4))))
 else
 bif (decide ((((List.length x5):Nat):Int)<(10:Int))) then
 some (Sum.inl (((0:Int),([]:List Int)),((6:Int),(v3,v4))))
 else
 bif (decide (((0:Int)≤(6:Int))∧((6:Int)<(((List.length x5):Nat):Int)))) then
 bindO x5[6]? fun x7 =>
 bif (decide (((0:Int)≤(7:Int))∧((7:Int)<(((List.length x5):Nat):Int)))) then
 bindO x5[7]? fun x10 =>
 bindO (some (Go.IntKind.wrap .i64 (((BitVec.toNat ((BitVec.ofInt 64 (Go.IntKind.wrap .i64 ((Go.IntKind.wrap .i64 x7)*(256:Int)))) ||| (BitVec.ofInt 64 (Go.IntKind.wrap .i64 x10)))):Nat):Int))) fun x12 =>
 bindO (some (Go.IntKind.wrap .i64 ((10:Int)+x12))) fun x13 =>
 bif (decide ((((List.length x5):Nat):Int)<(Go.IntKind.wrap .i64 (x13+(4:Int))))) then
 some (Sum.inl (((0:Int),([]:List Int)),((6:Int),(v3,v4))))
 else
 bif ((decide (((0:Int)≤x13)∧(x13≤(((List.length x5):Nat):Int))))&&(decide (((0:Int)≤x13)∧(x13≤(((Int.toNat x13):Nat):Int))))) then
 bindO (journal_Check (List.take (Int.toNat x13) x5)) fun x16 =>
 joinO (joinO (loopO (fun (v17,v18) =>
 bif (decide (v17<(1:Int))) then
 joinO (bif (decide (((0:Int)≤v17)∧(v17<(1:Int)))) then
 bindO ((x16,(4:Int))::([]:List (Int×Int)))[(Int.toNat v17)]? fun x19 =>
 bif (decide ((List.length v18)≤(List.length v18))) then
 loopO (fun (v21,v22) =>
 bif (decide (v21≥(0:Int))) then
 bindO (some (Go.IntKind.wrap .i64 ((8:Int)*v21))) fun x23 =>
 bif (decide ((0:Int)≤x23)) then
 bindO (some (Int.fdiv x19.1 ((2:Int) ^ (Min.min (Int.toNat x23) 32)))) fun x24 =>
 bif (decide ((List.length v22)≤(List.length v22))) then
 bif (decide (((List.length ((List.take (List.length v22) v22)++((Go.IntKind.wrap .u8 x24)::([]:List Int))))*1)≤140737488355328)) then
 bindO (some ((List.take (List.length v22) v22)++((Go.IntKind.wrap .u8 x24)::([]:List Int)))) fun x26 =>
 bif (decide ((List.length x26)≤(List.length x26))) then
 some (Sum.inl ((Go.IntKind.wrap .i64 (v21-(1:Int))),(List.take (List.length x26) x26)))
 else none
 else none
 else none
 else none
 else
 outO (bif (decide ((List.length v22)≤(List.length v22))) then
 some (Sum.inl (List.take (List.length v22) v22))
 else none)) ((Go.IntKind.wrap .i64 (x19.2-(1:Int))),(List.take (List.length v18) v18))
 else none
 else none) fun v28 =>
 bif (decide ((List.length v28)≤(List.length v28))) then
 some (Sum.inl ((Go.IntKind.wrap .i64 (v17+(1:Int))),(List.take (List.length v28) v28)))
 else none
 else
 outO (bif (decide ((List.length v18)≤(List.length v18))) then
 some (Sum.inl (List.take (List.length v18) v18))
 else none)) ((0:Int),([]:List Int))) fun v30 =>
 bif (decide ((List.length v30)≤(List.length v30))) then
 some (Sum.inl (List.take (List.length v30) v30))
 else none) fun v31 =>
 bif (decide ((List.length v31)≤(List.length v31))) then
 bindO (some (Go.IntKind.wrap .i64 (x13+(4:Int)))) fun x32 =>
 bindO (some (Go.IntKind.wrap .i64 (x13+(4:Int)))) fun x33 =>
 bif ((decide (((0:Int)≤x33)∧(x33≤(((List.length x5):Nat):Int))))&&((decide (((0:Int)≤x32)∧(x32≤(((Int.toNat x33):Nat):Int))))&&(decide (((0:Int)≤x13)∧(x13≤(((Int.toNat x32):Nat):Int)))))) then
 bif (decide ((bytesU (List.take (List.length v31) v31))≠(bytesU (List.take ((Int.toNat x32)-(Int.toNat x13)) (List.drop (Int.toNat x13) x5))))) then
 some (Sum.inl (((0:Int),([]:List Int)),((11:Int),(v3,v4))))
 else
 bif (decide (((0:Int)≤x12)∧((x12≤x12)∧(((x12*(1:Int))≤(140737488355328:Int))∧(x12≤(9223372036854775807:Int)))))) then
 bif ((decide (((0:Int)≤x13)∧(x13≤(((List.length x5):Nat):Int))))&&((decide (((0:Int)≤x13)∧(x13≤(((Int.toNat x13):Nat):Int))))&&(decide (((0:Int)≤(10:Int))∧((10:Int)≤(((Int.toNat x13):Nat):Int)))))) then
 bindO (some (List.take ((Int.toNat x13)-10) (List.drop 10 x5))) fun x35 =>
 bif (decide ((Int.toNat x12)≤(List.length (List.replicate (Int.toNat x12) (0:Int))))) then
 bif (decide (((0:Int)≤(1:Int))∧((1:Int)<(((List.length x5):Nat):Int)))) then
 bindO x5[1]? fun x38 =>
 bif (decide ((Int.toNat x12)≤(List.length (layL (List.replicate (Int.toNat x12) (0:Int)) 0 (List.take (Int.toNat x12) x35))))) then
 some (Sum.inl ((x38,(List.take (Int.toNat x12) (layL (List.replicate (Int.toNat x12) (0:Int)) 0 (List.take (Int.toNat x12) x35)))),((0:Int),(v3,(Go.IntKind.wrap .i64 (v4+(Go.IntKind.wrap .i64 (x13+(4:Int)))))))))
 else none
 else none
 else none
 else none
 else none
 else none
 else none
 else none
 else none
 else none
 else none) fun ((v39,v40),(v41,(v42,v43))) =>
 bif (decide (v41≠(0:Int))) then
 outO (outO (bif (decide ((List.length v2)≤(List.length v2))) then
 some ((List.take (List.length v2) v2),(v43,v41))
 else none))
 else
 bif (decide ((List.length v2)≤(List.length v2))) then
 bif (decide (((List.length ((List.take (List.length v2) v2)++((v39,v40)::([]:List (Int×(List Int))))))*32)≤140737488355328)) then
 bindO (some ((List.take (List.length v2) v2)++((v39,v40)::([]:List (Int×(List Int)))))) fun x44 =>
 bif (decide ((List.length x44)≤(List.length x44))) then
 some (Sum.inl ((List.take (List.length x44) x44),(v42,v43)))
 else none
 else none
 else none
 else
 outO (bif (decide ((List.length v2)≤(List.length v2))) then
 some (Sum.inl ((List.take (List.length v2) v2),(v3,v4)))
 else none)) (([]:List (Int×(List Int))),(a1,(0:Int)))) fun (v45,(v46,v47)) =>
 bif (decide ((List.length v45)≤(List.length v45))) then
 some ((List.take (List.length v45) v45),(v47,(0:Int)))
 else none
noncomputable def consj85:List (Nat×CE):=[(100,cej100),(94,cej94)]
theorem consj85_ok:ConL Try.prog consj85:=⟨conj100,conj94,trivial⟩
noncomputable def cej85:CE:=⟨[(.tmp 0 false [(.dat (.list (.int .u8)))])],[(.tmp 0 false [(.dat (.list (.pair (.int .u8) (.list (.int .u8)))))]),(.tmp 1 false [(.dat (.int .i64))]),(.tmp 2 false [(.dat (.int .u8))])],journal_Scan⟩
theorem conj85:ConOk Try.prog 85 cej85 :=
 tree_ok (plan:=planOf planj85) (eg:=egNo) KK tabL_ok (conOf_ok consj85_ok) Try.func85 (by kernel_rfl) (by kernel_rfl) 10000 (fun a r h=>Eq.trans (show _=journal_Scan a from by kernel_rfl) h)
def planj64:List (Nat×PL):=[]
noncomputable def journal_Recover:(List Int)→Option (((List Int)×(Int×Int))×(List (Int×(List Int)))):=fun a1 =>
 bindO (journal_Scan a1) fun (x3,(x4,x5)) =>
 bif ((decide (((0:Int)≤x4)∧(x4≤(((List.length a1):Nat):Int))))&&(decide (((0:Int)≤x4)∧(x4≤(((Int.toNat x4):Nat):Int))))) then
 bindO (journal_joined ((List.take (Int.toNat x4) a1),([]:List Int))) fun x7 =>
 some ((x7,(x4,(((List.length x3):Nat):Int))),x3)
 else none
noncomputable def consj64:List (Nat×CE):=[(85,cej85),(69,cej69)]
theorem consj64_ok:ConL Try.prog consj64:=⟨conj85,conj69,trivial⟩
noncomputable def cej64:CE:=⟨[(.tmp 0 false [(.dat (.list (.int .u8)))])],[(.tmp 0 true [(.dat (.list (.int .u8))),(.dat (.int .i64)),(.dat (.int .i64))]),(.tmp 1 false [(.dat (.list (.pair (.int .u8) (.list (.int .u8)))))])],journal_Recover⟩
theorem conj64:ConOk Try.prog 64 cej64 :=
 tree_ok (plan:=planOf planj64) (eg:=egNo) KK tabL_ok (conOf_ok consj64_ok) Try.func64 (by kernel_rfl) (by kernel_rfl) 10000 (fun a r h=>Eq.trans (show _=journal_Recover a from by kernel_rfl) h)
end Go.Proofs.Ytlaccfegaoaakaa

namespace Go.Proofs.Ytlaccfegaoaakaa
open Go.RowKit
set_option maxHeartbeats 4000000
set_option maxRecDepth 10000
def cloneG {α:Type} (l:List α):Option (List α):=bif decide (l.length≤1000000) then some l else none
def cloneB (l:List Int):Option (List Int):=bif decide (l.length≤140737488355328) then some l else none
theorem clone1_66 {cs:List DV} {n:Nat} (hw:cs.length=n*1) (h1:1≤n) (h2:n≤140737488355328):DoesO Try.prog (fun _=>none) 66 [.d (.dl cs n none)] [] (.sl 1 0 n none) [(1,.data 5 1 cs true)]:=by
 refine does_p KK (fn:=Try.f66) Try.func66 rfl (by show 1≤_;decide) ?_
 intro C F p hC hF hp
 conv=>cbv
 have e1:(p.emp cs)=false:=p_empL hp (by omega)
 simp only [e1];clear e1
 conv=>cbv
 obtain ⟨z2,hz2⟩:∃z:Nat,z=(cs).length:=⟨_,rfl⟩
 have ez2:(p.len cs)=z2:=by rw [hz2];exact p_len hp
 simp only [ez2]
 conv=>cbv
 have ez3:(p.nm n 1)=n:=by rw [p_nm hp];omega
 simp only [ez3];clear ez3
 conv=>cbv
 have e4:(p.neq z2 n)=true:=p_neq hp (by omega)
 simp only [e4];clear e4
 conv=>cbv
 have e5:(p.neq 0 0)=true:=p_neq hp (by omega)
 simp only [e5];clear e5
 conv=>cbv
 have e6:(p.fit 0 n 1)=true:=p_fit hp (by omega) (by show _≤9223372036854775807;omega)
 simp only [e6];clear e6
 conv=>cbv
 have ez7:(p.na 0 n)=n:=by rw [p_na hp];omega
 simp only [ez7];clear ez7
 conv=>cbv
 have ez8:(p.app [] cs)=cs:=by rw [p_app hp];rfl
 simp only [ez8];clear ez8
 conv=>cbv
 exact back_obj [(1,1302)] rfl rfl ⟨⟨rfl,rfl,rfl⟩,trivial⟩ rfl rfl
theorem clone_con66:ConOk Try.prog 66 ⟨[.tmp 0 false [.dat (.list (.int .u8))]],[.tmp 0 false [.own 1 5 (.int .u8)]],cloneB⟩:=by
 refine ⟨by kernel_rfl,?_⟩
 show ∀(a x:List (Int)),cloneB a=some x→DoesO Try.prog noG 66 [.d (.dl (encL (.int .u8) a) a.length none)] [] (.sl 1 0 x.length none) [(1,.data 5 (szU (.int .u8)) (encL (.int .u8) x) true)]
 intro a x hx
 unfold cloneB at hx
 rw [cond_ite] at hx
 split at hx
 ·cases hx
  by_cases h0:a=[]
  ·subst h0;exact clone0_66
  ·refine clone1_66 ?_ (by cases a with | nil=>exact absurd rfl h0 | cons _ _=>simp) (by assumption)
   exact encL_length _ _
 ·cases hx
theorem clone1_86 {cs:List DV} {n:Nat} (hw:cs.length=n*10) (h1:1≤n) (h2:n≤1000000):DoesO Try.prog (fun _=>none) 86 [.d (.dl cs n none)] [] (.sl 1 0 n none) [(1,.data 76 10 cs true)]:=by
 refine does_p KK (fn:=Try.f86) Try.func86 rfl (by show 1≤_;decide) ?_
 intro C F p hC hF hp
 conv=>cbv
 have e9:(p.emp cs)=false:=p_empL hp (by omega)
 simp only [e9];clear e9
 conv=>cbv
 obtain ⟨z10,hz10⟩:∃z:Nat,z=(cs).length:=⟨_,rfl⟩
 have ez10:(p.len cs)=z10:=by rw [hz10];exact p_len hp
 simp only [ez10]
 conv=>cbv
 obtain ⟨z11,hz11⟩:∃z:Nat,z=n*10:=⟨_,rfl⟩
 have ez11:(p.nm n 10)=z11:=by rw [hz11];exact p_nm hp
 simp only [ez11]
 conv=>cbv
 have e12:(p.neq z10 z11)=true:=p_neq hp (by omega)
 simp only [e12];clear e12
 conv=>cbv
 have e13:(p.neq 0 0)=true:=p_neq hp (by omega)
 simp only [e13];clear e13
 conv=>cbv
 have e14:(p.fit 0 n 128)=true:=p_fit hp (by omega) (by show _≤9223372036854775807;omega)
 simp only [e14];clear e14
 conv=>cbv
 have ez15:(p.na 0 n)=n:=by rw [p_na hp];omega
 simp only [ez15];clear ez15
 conv=>cbv
 have ez16:(p.app [] cs)=cs:=by rw [p_app hp];rfl
 simp only [ez16];clear ez16
 conv=>cbv
 exact back_obj [(1,1302)] rfl rfl ⟨⟨rfl,rfl,rfl⟩,trivial⟩ rfl rfl
theorem clone_con86:ConOk Try.prog 86 ⟨[.tmp 0 false [.dat (.list (.pair .str (.pair .str (.pair (.int .i64) (.pair (.int .i64) (.pair (.int .i64) (.pair .str (.pair (.int .i64) (.pair .str (.pair (.int .i64) (.list .str)))))))))))]],[.tmp 0 false [.own 1 76 (.pair .str (.pair .str (.pair (.int .i64) (.pair (.int .i64) (.pair (.int .i64) (.pair .str (.pair (.int .i64) (.pair .str (.pair (.int .i64) (.list .str))))))))))]],cloneG⟩:=by
 refine ⟨by kernel_rfl,?_⟩
 show ∀(a x:List ((List UInt8)×((List UInt8)×((Int)×((Int)×((Int)×((List UInt8)×((Int)×((List UInt8)×((Int)×(List (List UInt8)))))))))))),cloneG a=some x→DoesO Try.prog noG 86 [.d (.dl (encL (.pair .str (.pair .str (.pair (.int .i64) (.pair (.int .i64) (.pair (.int .i64) (.pair .str (.pair (.int .i64) (.pair .str (.pair (.int .i64) (.list .str)))))))))) a) a.length none)] [] (.sl 1 0 x.length none) [(1,.data 76 (szU (.pair .str (.pair .str (.pair (.int .i64) (.pair (.int .i64) (.pair (.int .i64) (.pair .str (.pair (.int .i64) (.pair .str (.pair (.int .i64) (.list .str))))))))))) (encL (.pair .str (.pair .str (.pair (.int .i64) (.pair (.int .i64) (.pair (.int .i64) (.pair .str (.pair (.int .i64) (.pair .str (.pair (.int .i64) (.list .str)))))))))) x) true)]
 intro a x hx
 unfold cloneG at hx
 rw [cond_ite] at hx
 split at hx
 ·cases hx
  by_cases h0:a=[]
  ·subst h0;exact clone0_86
  ·refine clone1_86 ?_ (by cases a with | nil=>exact absurd rfl h0 | cons _ _=>simp) (by assumption)
   exact encL_length _ _
 ·cases hx
theorem clone1_87 {cs:List DV} {n:Nat} (hw:cs.length=n*1) (h1:1≤n) (h2:n≤1000000):DoesO Try.prog (fun _=>none) 87 [.d (.dl cs n none)] [] (.sl 1 0 n none) [(1,.data 9 1 cs true)]:=by
 refine does_p KK (fn:=Try.f87) Try.func87 rfl (by show 1≤_;decide) ?_
 intro C F p hC hF hp
 conv=>cbv
 have e17:(p.emp cs)=false:=p_empL hp (by omega)
 simp only [e17];clear e17
 conv=>cbv
 obtain ⟨z18,hz18⟩:∃z:Nat,z=(cs).length:=⟨_,rfl⟩
 have ez18:(p.len cs)=z18:=by rw [hz18];exact p_len hp
 simp only [ez18]
 conv=>cbv
 have ez19:(p.nm n 1)=n:=by rw [p_nm hp];omega
 simp only [ez19];clear ez19
 conv=>cbv
 have e20:(p.neq z18 n)=true:=p_neq hp (by omega)
 simp only [e20];clear e20
 conv=>cbv
 have e21:(p.neq 0 0)=true:=p_neq hp (by omega)
 simp only [e21];clear e21
 conv=>cbv
 have e22:(p.fit 0 n 16)=true:=p_fit hp (by omega) (by show _≤9223372036854775807;omega)
 simp only [e22];clear e22
 conv=>cbv
 have ez23:(p.na 0 n)=n:=by rw [p_na hp];omega
 simp only [ez23];clear ez23
 conv=>cbv
 have ez24:(p.app [] cs)=cs:=by rw [p_app hp];rfl
 simp only [ez24];clear ez24
 conv=>cbv
 exact back_obj [(1,1302)] rfl rfl ⟨⟨rfl,rfl,rfl⟩,trivial⟩ rfl rfl
theorem clone_con87:ConOk Try.prog 87 ⟨[.tmp 0 false [.dat (.list .str)]],[.tmp 0 false [.own 1 9 .str]],cloneG⟩:=by
 refine ⟨by kernel_rfl,?_⟩
 show ∀(a x:List (List UInt8)),cloneG a=some x→DoesO Try.prog noG 87 [.d (.dl (encL .str a) a.length none)] [] (.sl 1 0 x.length none) [(1,.data 9 (szU .str) (encL .str x) true)]
 intro a x hx
 unfold cloneG at hx
 rw [cond_ite] at hx
 split at hx
 ·cases hx
  by_cases h0:a=[]
  ·subst h0;exact clone0_87
  ·refine clone1_87 ?_ (by cases a with | nil=>exact absurd rfl h0 | cons _ _=>simp) (by assumption)
   exact encL_length _ _
 ·cases hx
end Go.Proofs.Ytlaccfegaoaakaa

namespace Go.Proofs.Ytlaccfegaoaakaa
open Go.RowKit
set_option maxHeartbeats 4000000
set_option maxRecDepth 10000
theorem clone_back {e z:Nat}:Back [(20000001,.data e z [] true)] [(20000001,.data e z [] true)] [(20000002,.data e z [] true),(20000001,.data e z [] true)] (.sl 20000002 0 0 none) (.d (.val (.slice none 0 0))):=by
 refine ⟨fun r=>if r=20000001 then some 20000001 else none,fun r o h => ?_,⟨fun r' o ho => ?_,fun r' r'' o' o'' r h1 h2 h3 h4 h5 h6 => ?_⟩,?_⟩
 ·rw [look] at h
  split at h
  ·rename_i hk;subst hk;exact ⟨if_pos rfl,rfl⟩
  ·cases h
 ·unfold lookF at ho
  rw [look] at ho
  unfold WkO
  split at ho
  ·rename_i hk;subst hk;cases ho
   exact rfl
  ·rw [look] at ho
   split at ho
   ·rename_i hk;subst hk;cases ho
    show ∃wr1 cs1,_
    exact ⟨true,[],rfl,.inl rfl,fun h=>h,fun h=>by cases h⟩
   ·cases ho
 ·split at h5
  ·split at h6
   ·rename_i a b;rw [a,b]
   ·cases h6
  ·cases h5
 ·rw [WkV]
  exact ⟨rfl,.inr (.inl ⟨by rw [if_neg (by decide)],rfl,rfl,rfl,rfl⟩)⟩
theorem clone3_66:DoesO Try.prog (fun _=>none) 66 [.sl 20000001 0 0 none] [(20000001,.data 5 1 [] true)] (.sl 20000002 0 0 none) [(20000002,.data 5 1 [] true),(20000001,.data 5 1 [] true)]:=by
 refine does_p KK (fn:=Try.f66) Try.func66 rfl (by show 1≤_;decide) ?_
 intro C F p hC hF hp
 conv=>cbv
 have e1:(p.neq 0 0)=true:=p_neq hp (by omega)
 simp only [e1];clear e1
 conv=>cbv
 refine ⟨clone_back,?_⟩
 conv=>cbv
 have ez2:(p.nm 0 1)=0:=by rw [hp];rfl
 simp only [ez2];clear ez2
 conv=>cbv
 have ez3:(p.na 0 0)=0:=by rw [hp];rfl
 simp only [ez3];clear ez3
 conv=>cbv
 have ez4:(p.len [])=0:=by rw [hp];rfl
 simp only [ez4];clear ez4
 conv=>cbv
 have e5:(p.nle 0 0)=true:=p_nle hp (by omega)
 simp only [e5];clear e5
 conv=>cbv
 have e6:(p.neq 0 0)=true:=p_neq hp (by omega)
 simp only [e6];clear e6
 conv=>cbv
 have e7:(p.fit 0 0 1)=true:=p_fit hp (by omega) (by show _≤9223372036854775807;omega)
 simp only [e7];clear e7
 conv=>cbv
 have ez8:(p.na 0 0)=0:=by rw [hp];rfl
 simp only [ez8];clear ez8
 conv=>cbv
 have ez9:(p.cut [] 0 0)=[]:=by rw [hp];rfl
 simp only [ez9];clear ez9
 conv=>cbv
 have ez10:(p.app [] [])=[]:=by rw [p_app hp];rfl
 simp only [ez10];clear ez10
 conv=>cbv
 exact back_obj [(20000002,1302),(20000001,20000001)] rfl rfl ⟨⟨rfl,rfl,rfl⟩,⟨rfl,rfl,rfl⟩,trivial⟩ rfl rfl
theorem clone2_66 {cs:List DV} {n:Nat} (hw:cs.length=n*1) (h1:1≤n) (h2:n≤140737488355328):DoesO Try.prog (fun _=>none) 66 [.sl 20000001 0 n none] [(20000001,.data 5 1 cs true)] (.sl 20000002 0 n none) [(20000002,.data 5 1 cs true),(20000001,.data 5 1 cs true)]:=by
 refine does_p KK (fn:=Try.f66) Try.func66 rfl (by show 1≤_;decide) ?_
 intro C F p hC hF hp
 conv=>cbv
 have e12:(p.neq n 0)=false:=p_neqf hp (by omega)
 simp only [e12];clear e12
 conv=>cbv
 have ez13:(p.nm n 1)=n:=by rw [p_nm hp];omega
 simp only [ez13];clear ez13
 conv=>cbv
 have ez14:(p.na 0 n)=n:=by rw [p_na hp];omega
 simp only [ez14];clear ez14
 conv=>cbv
 obtain ⟨z15,hz15⟩:∃z:Nat,z=(cs).length:=⟨_,rfl⟩
 have ez15:(p.len cs)=z15:=by rw [hz15];exact p_len hp
 simp only [ez15]
 conv=>cbv
 have e16:(p.nle n z15)=true:=p_nle hp (by omega)
 simp only [e16];clear e16
 conv=>cbv
 have e17:(p.neq 0 0)=true:=p_neq hp (by omega)
 simp only [e17];clear e17
 conv=>cbv
 have e18:(p.fit 0 n 1)=true:=p_fit hp (by omega) (by show _≤9223372036854775807;omega)
 simp only [e18];clear e18
 conv=>cbv
 have ez19:(p.na 0 n)=n:=by rw [p_na hp];omega
 simp only [ez19];clear ez19
 conv=>cbv
 have ez20:(p.cut cs 0 n)=cs:=p_cutAll hp (by omega)
 simp only [ez20]
 conv=>cbv
 have ez21:(p.app [] cs)=cs:=by rw [p_app hp];rfl
 simp only [ez21];clear ez21
 conv=>cbv
 exact back_obj [(20000002,1302),(20000001,20000001)] rfl rfl ⟨⟨rfl,rfl,rfl⟩,⟨rfl,rfl,rfl⟩,trivial⟩ rfl rfl
theorem clone_conm66:ConOk Try.prog 66 ⟨[.tmp 0 false [.own 20000001 5 (.int .u8)]],[.tmp 0 false [.own 20000002 5 (.int .u8)]],cloneB⟩:=by
 refine ⟨by kernel_rfl,?_⟩
 show ∀(a x:List (Int)),cloneB a=some x→DoesO Try.prog noG 66 [.sl 20000001 0 a.length none] [(20000001,.data 5 (szU (.int .u8)) (encL (.int .u8) a) true)] (.sl 20000002 0 x.length none) [(20000002,.data 5 (szU (.int .u8)) (encL (.int .u8) x) true),(20000001,.data 5 (szU (.int .u8)) (encL (.int .u8) a) true)]
 intro a x hx
 unfold cloneB at hx
 rw [cond_ite] at hx
 split at hx
 ·cases hx
  by_cases h0:a=[]
  ·subst h0;exact clone3_66
  ·refine clone2_66 ?_ (by cases a with | nil=>exact absurd rfl h0 | cons _ _=>simp) (by assumption)
   exact encL_length _ _
 ·cases hx
theorem clone3_86:DoesO Try.prog (fun _=>none) 86 [.sl 20000001 0 0 none] [(20000001,.data 76 10 [] true)] (.sl 20000002 0 0 none) [(20000002,.data 76 10 [] true),(20000001,.data 76 10 [] true)]:=by
 refine does_p KK (fn:=Try.f86) Try.func86 rfl (by show 1≤_;decide) ?_
 intro C F p hC hF hp
 conv=>cbv
 have e22:(p.neq 0 0)=true:=p_neq hp (by omega)
 simp only [e22];clear e22
 conv=>cbv
 refine ⟨clone_back,?_⟩
 conv=>cbv
 have ez23:(p.nm 0 10)=0:=by rw [hp];rfl
 simp only [ez23];clear ez23
 conv=>cbv
 have ez24:(p.na 0 0)=0:=by rw [hp];rfl
 simp only [ez24];clear ez24
 conv=>cbv
 have ez25:(p.len [])=0:=by rw [hp];rfl
 simp only [ez25];clear ez25
 conv=>cbv
 have e26:(p.nle 0 0)=true:=p_nle hp (by omega)
 simp only [e26];clear e26
 conv=>cbv
 have e27:(p.neq 0 0)=true:=p_neq hp (by omega)
 simp only [e27];clear e27
 conv=>cbv
 have e28:(p.fit 0 0 128)=true:=p_fit hp (by omega) (by show _≤9223372036854775807;omega)
 simp only [e28];clear e28
 conv=>cbv
 have ez29:(p.na 0 0)=0:=by rw [hp];rfl
 simp only [ez29];clear ez29
 conv=>cbv
 have ez30:(p.cut [] 0 0)=[]:=by rw [hp];rfl
 simp only [ez30];clear ez30
 conv=>cbv
 have ez31:(p.app [] [])=[]:=by rw [p_app hp];rfl
 simp only [ez31];clear ez31
 conv=>cbv
 exact back_obj [(20000002,1302),(20000001,20000001)] rfl rfl ⟨⟨rfl,rfl,rfl⟩,⟨rfl,rfl,rfl⟩,trivial⟩ rfl rfl
theorem clone2_86 {cs:List DV} {n:Nat} (hw:cs.length=n*10) (h1:1≤n) (h2:n≤1000000):DoesO Try.prog (fun _=>none) 86 [.sl 20000001 0 n none] [(20000001,.data 76 10 cs true)] (.sl 20000002 0 n none) [(20000002,.data 76 10 cs true),(20000001,.data 76 10 cs true)]:=by
 refine does_p KK (fn:=Try.f86) Try.func86 rfl (by show 1≤_;decide) ?_
 intro C F p hC hF hp
 conv=>cbv
 have e33:(p.neq n 0)=false:=p_neqf hp (by omega)
 simp only [e33];clear e33
 conv=>cbv
 obtain ⟨z34,hz34⟩:∃z:Nat,z=n*10:=⟨_,rfl⟩
 have ez34:(p.nm n 10)=z34:=by rw [hz34];exact p_nm hp
 simp only [ez34]
 conv=>cbv
 have ez35:(p.na 0 z34)=z34:=by rw [p_na hp];omega
 simp only [ez35];clear ez35
 conv=>cbv
 obtain ⟨z36,hz36⟩:∃z:Nat,z=(cs).length:=⟨_,rfl⟩
 have ez36:(p.len cs)=z36:=by rw [hz36];exact p_len hp
 simp only [ez36]
 conv=>cbv
 have e37:(p.nle z34 z36)=true:=p_nle hp (by omega)
 simp only [e37];clear e37
 conv=>cbv
 have e38:(p.neq 0 0)=true:=p_neq hp (by omega)
 simp only [e38];clear e38
 conv=>cbv
 have e39:(p.fit 0 n 128)=true:=p_fit hp (by omega) (by show _≤9223372036854775807;omega)
 simp only [e39];clear e39
 conv=>cbv
 have ez40:(p.na 0 n)=n:=by rw [p_na hp];omega
 simp only [ez40];clear ez40
 conv=>cbv
 have ez41:(p.cut cs 0 z34)=cs:=p_cutAll hp (by omega)
 simp only [ez41]
 conv=>cbv
 have ez42:(p.app [] cs)=cs:=by rw [p_app hp];rfl
 simp only [ez42];clear ez42
 conv=>cbv
 exact back_obj [(20000002,1302),(20000001,20000001)] rfl rfl ⟨⟨rfl,rfl,rfl⟩,⟨rfl,rfl,rfl⟩,trivial⟩ rfl rfl
theorem clone_conm86:ConOk Try.prog 86 ⟨[.tmp 0 false [.own 20000001 76 (.pair .str (.pair .str (.pair (.int .i64) (.pair (.int .i64) (.pair (.int .i64) (.pair .str (.pair (.int .i64) (.pair .str (.pair (.int .i64) (.list .str))))))))))]],[.tmp 0 false [.own 20000002 76 (.pair .str (.pair .str (.pair (.int .i64) (.pair (.int .i64) (.pair (.int .i64) (.pair .str (.pair (.int .i64) (.pair .str (.pair (.int .i64) (.list .str))))))))))]],cloneG⟩:=by
 refine ⟨by kernel_rfl,?_⟩
 show ∀(a x:List ((List UInt8)×((List UInt8)×((Int)×((Int)×((Int)×((List UInt8)×((Int)×((List UInt8)×((Int)×(List (List UInt8)))))))))))),cloneG a=some x→DoesO Try.prog noG 86 [.sl 20000001 0 a.length none] [(20000001,.data 76 (szU (.pair .str (.pair .str (.pair (.int .i64) (.pair (.int .i64) (.pair (.int .i64) (.pair .str (.pair (.int .i64) (.pair .str (.pair (.int .i64) (.list .str))))))))))) (encL (.pair .str (.pair .str (.pair (.int .i64) (.pair (.int .i64) (.pair (.int .i64) (.pair .str (.pair (.int .i64) (.pair .str (.pair (.int .i64) (.list .str)))))))))) a) true)] (.sl 20000002 0 x.length none) [(20000002,.data 76 (szU (.pair .str (.pair .str (.pair (.int .i64) (.pair (.int .i64) (.pair (.int .i64) (.pair .str (.pair (.int .i64) (.pair .str (.pair (.int .i64) (.list .str))))))))))) (encL (.pair .str (.pair .str (.pair (.int .i64) (.pair (.int .i64) (.pair (.int .i64) (.pair .str (.pair (.int .i64) (.pair .str (.pair (.int .i64) (.list .str)))))))))) x) true),(20000001,.data 76 (szU (.pair .str (.pair .str (.pair (.int .i64) (.pair (.int .i64) (.pair (.int .i64) (.pair .str (.pair (.int .i64) (.pair .str (.pair (.int .i64) (.list .str))))))))))) (encL (.pair .str (.pair .str (.pair (.int .i64) (.pair (.int .i64) (.pair (.int .i64) (.pair .str (.pair (.int .i64) (.pair .str (.pair (.int .i64) (.list .str)))))))))) a) true)]
 intro a x hx
 unfold cloneG at hx
 rw [cond_ite] at hx
 split at hx
 ·cases hx
  by_cases h0:a=[]
  ·subst h0;exact clone3_86
  ·refine clone2_86 ?_ (by cases a with | nil=>exact absurd rfl h0 | cons _ _=>simp) (by assumption)
   exact encL_length _ _
 ·cases hx
theorem clone3_87:DoesO Try.prog (fun _=>none) 87 [.sl 20000001 0 0 none] [(20000001,.data 9 1 [] true)] (.sl 20000002 0 0 none) [(20000002,.data 9 1 [] true),(20000001,.data 9 1 [] true)]:=by
 refine does_p KK (fn:=Try.f87) Try.func87 rfl (by show 1≤_;decide) ?_
 intro C F p hC hF hp
 conv=>cbv
 have e43:(p.neq 0 0)=true:=p_neq hp (by omega)
 simp only [e43];clear e43
 conv=>cbv
 refine ⟨clone_back,?_⟩
 conv=>cbv
 have ez44:(p.nm 0 1)=0:=by rw [hp];rfl
 simp only [ez44];clear ez44
 conv=>cbv
 have ez45:(p.na 0 0)=0:=by rw [hp];rfl
 simp only [ez45];clear ez45
 conv=>cbv
 have ez46:(p.len [])=0:=by rw [hp];rfl
 simp only [ez46];clear ez46
 conv=>cbv
 have e47:(p.nle 0 0)=true:=p_nle hp (by omega)
 simp only [e47];clear e47
 conv=>cbv
 have e48:(p.neq 0 0)=true:=p_neq hp (by omega)
 simp only [e48];clear e48
 conv=>cbv
 have e49:(p.fit 0 0 16)=true:=p_fit hp (by omega) (by show _≤9223372036854775807;omega)
 simp only [e49];clear e49
 conv=>cbv
 have ez50:(p.na 0 0)=0:=by rw [hp];rfl
 simp only [ez50];clear ez50
 conv=>cbv
 have ez51:(p.cut [] 0 0)=[]:=by rw [hp];rfl
 simp only [ez51];clear ez51
 conv=>cbv
 have ez52:(p.app [] [])=[]:=by rw [p_app hp];rfl
 simp only [ez52];clear ez52
 conv=>cbv
 exact back_obj [(20000002,1302),(20000001,20000001)] rfl rfl ⟨⟨rfl,rfl,rfl⟩,⟨rfl,rfl,rfl⟩,trivial⟩ rfl rfl
theorem clone2_87 {cs:List DV} {n:Nat} (hw:cs.length=n*1) (h1:1≤n) (h2:n≤1000000):DoesO Try.prog (fun _=>none) 87 [.sl 20000001 0 n none] [(20000001,.data 9 1 cs true)] (.sl 20000002 0 n none) [(20000002,.data 9 1 cs true),(20000001,.data 9 1 cs true)]:=by
 refine does_p KK (fn:=Try.f87) Try.func87 rfl (by show 1≤_;decide) ?_
 intro C F p hC hF hp
 conv=>cbv
 have e54:(p.neq n 0)=false:=p_neqf hp (by omega)
 simp only [e54];clear e54
 conv=>cbv
 have ez55:(p.nm n 1)=n:=by rw [p_nm hp];omega
 simp only [ez55];clear ez55
 conv=>cbv
 have ez56:(p.na 0 n)=n:=by rw [p_na hp];omega
 simp only [ez56];clear ez56
 conv=>cbv
 obtain ⟨z57,hz57⟩:∃z:Nat,z=(cs).length:=⟨_,rfl⟩
 have ez57:(p.len cs)=z57:=by rw [hz57];exact p_len hp
 simp only [ez57]
 conv=>cbv
 have e58:(p.nle n z57)=true:=p_nle hp (by omega)
 simp only [e58];clear e58
 conv=>cbv
 have e59:(p.neq 0 0)=true:=p_neq hp (by omega)
 simp only [e59];clear e59
 conv=>cbv
 have e60:(p.fit 0 n 16)=true:=p_fit hp (by omega) (by show _≤9223372036854775807;omega)
 simp only [e60];clear e60
 conv=>cbv
 have ez61:(p.na 0 n)=n:=by rw [p_na hp];omega
 simp only [ez61];clear ez61
 conv=>cbv
 have ez62:(p.cut cs 0 n)=cs:=p_cutAll hp (by omega)
 simp only [ez62]
 conv=>cbv
 have ez63:(p.app [] cs)=cs:=by rw [p_app hp];rfl
 simp only [ez63];clear ez63
 conv=>cbv
 exact back_obj [(20000002,1302),(20000001,20000001)] rfl rfl ⟨⟨rfl,rfl,rfl⟩,⟨rfl,rfl,rfl⟩,trivial⟩ rfl rfl
theorem clone_conm87:ConOk Try.prog 87 ⟨[.tmp 0 false [.own 20000001 9 .str]],[.tmp 0 false [.own 20000002 9 .str]],cloneG⟩:=by
 refine ⟨by kernel_rfl,?_⟩
 show ∀(a x:List (List UInt8)),cloneG a=some x→DoesO Try.prog noG 87 [.sl 20000001 0 a.length none] [(20000001,.data 9 (szU .str) (encL .str a) true)] (.sl 20000002 0 x.length none) [(20000002,.data 9 (szU .str) (encL .str x) true),(20000001,.data 9 (szU .str) (encL .str a) true)]
 intro a x hx
 unfold cloneG at hx
 rw [cond_ite] at hx
 split at hx
 ·cases hx
  by_cases h0:a=[]
  ·subst h0;exact clone3_87
  ·refine clone2_87 ?_ (by cases a with | nil=>exact absurd rfl h0 | cons _ _=>simp) (by assumption)
   exact encL_length _ _
 ·cases hx
end Go.Proofs.Ytlaccfegaoaakaa

set_option maxRecDepth 1000000
set_option maxHeartbeats 0
namespace Go.Proofs.Ytlaccfegaoaakaa
open Go.RowKit
def plan78:List (Nat×PL):=[]
noncomputable def registrar_expiry:((Int×(Int×(Int×Int)))×((LU×(LU×(Int×(Bool×((List (LU×(Int×Int)))×(Int×(LU×(Int×(List LU)))))))))×(LU×(Int×Int))))→Option Int:=fun ((a1,(a2,(a3,a4))),((a5,(a6,(a7,(a8,(a9,(a10,(a11,(a12,a13)))))))),(a14,(a15,a16)))) =>
 bif (decide (a16≠(-1:Int))) then
 some (minA a16 a3)
 else
 bif (decide (a10≠(-1:Int))) then
 some (minA a10 a3)
 else
 some (minA a2 a3)
noncomputable def cons78:List (Nat×CE):=[]
theorem cons78_ok:ConL Try.prog cons78:=trivial
noncomputable def ce78:CE:=⟨[(.tmp 0 true [dI,dI,dI,dI]),(.tmp 1 true [dS,dS,dI,dO,(.dat (.list (.pair .str (.pair uI6 uI6)))),dI,dS,dI,(.dat (.list .str))]),(.tmp 2 true [dS,dI,dI])],[(.tmp 0 false [dI])],registrar_expiry⟩
theorem con78:ConOk Try.prog 78 ce78 :=
 tree_ok (plan:=planOf plan78) (eg:=egNo) KK tabL_ok (conOf_ok cons78_ok) Try.func78 (by kernel_rfl) (by kernel_rfl) 10000 (fun a r h=>Eq.trans (show _=registrar_expiry a from by kernel_rfl) h)
def plan77:List (Nat×PL):=[(134480385,.unroll),(4731607904491931959314,(.carry [.tmp 0 false [dI]])),(1240362622515133011542409729,(.carry [])),(166478653090102798427020009337522182,(.carry [.tmp 8 false [dI]]))]
noncomputable def registrar_touches:((LU×(LU×(Int×(Bool×((List (LU×(Int×Int)))×(Int×(LU×(Int×(List LU)))))))))×(LU×(LU×(Int×(Int×(Int×(LU×(Int×(LU×(Int×(List LU)))))))))))→Option Bool:=fun ((a1,(a2,(a3,(a4,(a5,(a6,(a7,(a8,a9)))))))),(a10,(a11,(a12,(a13,(a14,(a15,(a16,(a17,(a18,a19)))))))))) =>
 bif a4 then
 some Bool.true
 else
 bif (decide (a8≠z0)) then
 bif (decide (a18=a8)) then
 joinO (joinO (loopO (fun v20 =>
 bif (decide (v20<(lI a5))) then
 bif (iR v20 a5) then
 bindO a5[(Int.toNat v20)]? fun x21 =>
 bif (decide (x21.1=a11)) then
 outO (outO (some (Sum.inl v20)))
 else
 bif (decide (a17=a7)) then
 outO (outO (some (Sum.inl v20)))
 else
 some (Sum.inl (wI (v20+z1)))
 else none
 else
 outO (some (Sum.inl ()))) z0) fun _ =>
 some (Sum.inl (-1:Int))) fun v23 =>
 some (decide (v23≥z0))
 else
 joinO (joinO (loopO (fun v24 =>
 bif (decide (v24<(lI a5))) then
 bif (iR v24 a5) then
 bindO a5[(Int.toNat v24)]? fun x25 =>
 bif (decide (x25.1=a11)) then
 outO (outO (some (Sum.inl v24)))
 else
 some (Sum.inl (wI (v24+z1)))
 else none
 else
 outO (some (Sum.inl ()))) z0) fun _ =>
 some (Sum.inl (-1:Int))) fun v27 =>
 some (decide (v27≥z0))
 else
 joinO (joinO (loopO (fun v28 =>
 bif (decide (v28<(lI a5))) then
 bif (iR v28 a5) then
 bindO a5[(Int.toNat v28)]? fun x29 =>
 bif (decide (x29.1=a11)) then
 outO (outO (some (Sum.inl v28)))
 else
 some (Sum.inl (wI (v28+z1)))
 else none
 else
 outO (some (Sum.inl ()))) z0) fun _ =>
 some (Sum.inl (-1:Int))) fun v31 =>
 some (decide (v31≥z0))
noncomputable def cons77:List (Nat×CE):=[]
theorem cons77_ok:ConL Try.prog cons77:=trivial
noncomputable def ce77:CE:=⟨[(.tmp 0 true [dS,dS,dI,dO,(.dat (.list (.pair .str (.pair uI6 uI6)))),dI,dS,dI,(.dat (.list .str))]),(.tmp 1 true [dS,dS,dI,dI,dI,dS,dI,dS,dI,(.dat (.list .str))])],[(.tmp 0 false [dO])],registrar_touches⟩
theorem con77:ConOk Try.prog 77 ce77 :=
 tree_ok (plan:=planOf plan77) (eg:=egNo) KK tabL_ok (conOf_ok cons77_ok) Try.func77 (by kernel_rfl) (by kernel_rfl) 10000 (fun a r h=>Eq.trans (show _=registrar_touches a from by kernel_rfl) h)
def plan67:List (Nat×PL):=[(134480385,(.carry [.row 4 76 UBd])),(18049651601311750,(.carry [.tmp 9 false [dI],.row 4 76 UBd]))]
noncomputable def registrar_copyOf:(List (LU×(LU×(Int×(Int×(Int×(LU×(Int×(LU×(Int×(List LU)))))))))))→Option (List (LU×(LU×(Int×(Int×(Int×(LU×(Int×(LU×(Int×(List LU))))))))))):=fun a1 =>
 bindO (cloneG a1) fun x2 =>
 joinO (loopO (fun (v3,v4) =>
 bif (decide (v3<(lI x2))) then
 bif (iR v3 x2) then
 bindO v4[(Int.toNat v3)]? fun x5 =>
 bindO (cloneG x5.2.2.2.2.2.2.2.2.2) fun x6 =>
 bif (iR v3 x2) then
 bindO v4[(Int.toNat v3)]? fun x7 =>
 bif (lE x6) then
 some (Sum.inl ((wI (v3+z1)),(List.set v4 (Int.toNat v3) (x7.1,(x7.2.1,(x7.2.2.1,(x7.2.2.2.1,(x7.2.2.2.2.1,(x7.2.2.2.2.2.1,(x7.2.2.2.2.2.2.1,(x7.2.2.2.2.2.2.2.1,(x7.2.2.2.2.2.2.2.2.1,(tA x6)))))))))))))
 else none
 else none
 else none
 else
 outO (some (Sum.inl v4))) (z0,x2)) fun v9 =>
 bif (decide ((List.length x2)≤(List.length v9))) then
 some (List.take (List.length x2) v9)
 else none
noncomputable def ce_clone_conm87:CE:=⟨[.tmp 0 false [.own 20000001 9 .str]],[.tmp 0 false [.own 20000002 9 .str]],cloneG⟩
noncomputable def ce_clone_conm86:CE:=⟨[.tmp 0 false [.own 20000001 76 UBd]],[.tmp 0 false [.own 20000002 76 UBd]],cloneG⟩
noncomputable def ce_clone_con87:CE:=⟨[.tmp 0 false [.dat (.list .str)]],[.tmp 0 false [.own 1 9 .str]],cloneG⟩
noncomputable def ce_clone_con86:CE:=⟨[.tmp 0 false [.dat (.list UBd)]],[.tmp 0 false [.own 1 76 UBd]],cloneG⟩
noncomputable def cons67:List (Nat×CE):=[(1000000087,ce_clone_conm87),(1000000086,ce_clone_conm86),(87,ce_clone_con87),(86,ce_clone_con86)]
theorem cons67_ok:ConL Try.prog cons67:=⟨clone_conm87,clone_conm86,clone_con87,clone_con86,trivial⟩
noncomputable def ce67:CE:=⟨[(.tmp 0 false [(.dat (.list UBd))])],[(.tmp 0 false [(.dat (.list UBd))])],registrar_copyOf⟩
theorem con67:ConOk Try.prog 67 ce67 :=
 tree_ok (plan:=planOf plan67) (eg:=egNo) KK tabL_ok (conOf_ok cons67_ok) Try.func67 (by kernel_rfl) (by kernel_rfl) 10000 (fun a r h=>Eq.trans (show _=registrar_copyOf a from by kernel_rfl) h)
def plan45:List (Nat×PL):=[(262657,(.carry [])),(35253226045953,(.carry [.tmp 13 false [dO],.tmp 12 false [(.own 10000002 76 UBd)]])),(4731607904558101301254,(.carry [.tmp 44 false [dI],.tmp 13 false [dO],.tmp 12 false [(.own 10000001 76 UBd)]])),(9241421688590303745,(.carry [.tmp 12 false [(.own 10000004 76 UBd)],.dead 10000002])),(1240362622532514091349837830,(.carry [.tmp 86 false [dI],.tmp 12 false [(.own 10000003 76 UBd)],.dead 10000002])),(2422583247133816584929793,(.carry [.tmp 19 false [dI]])),(325153619321163373997995722016774,(.carry [.tmp 132 false [dI],.tmp 19 false [dI]]))]
noncomputable def registrar_Update:((Int×(Int×(Int×Int)))×((List (LU×(LU×(Int×(Int×(Int×(LU×(Int×(LU×(Int×(List LU)))))))))))×(Int×(Int×(LU×(LU×(Int×(Bool×((List (LU×(Int×Int)))×(Int×(LU×(Int×(List LU)))))))))))))→Option ((List (LU×(LU×(Int×(Int×(Int×(LU×(Int×(LU×(Int×(List LU)))))))))))×Int):=fun ((a1,(a2,(a3,a4))),(a5,(a6,(a7,(a8,(a9,(a10,(a11,(a12,(a13,(a14,(a15,a16)))))))))))) =>
 joinO (bindO (registrar_Valid (a1,(a2,(a3,a4)))) fun x17 =>
 bif (!x17) then
 outO (some (([]:List (LU×(LU×(Int×(Int×(Int×(LU×(Int×(LU×(Int×(List LU))))))))))),(2:Int)))
 else
 bindO (registrar_Formed (a8,(a9,(a10,(a11,(a12,(a13,(a14,(a15,a16))))))))) fun x18 =>
 bif (!x18) then
 outO (some (([]:List (LU×(LU×(Int×(Int×(Int×(LU×(Int×(LU×(Int×(List LU))))))))))),(2:Int)))
 else
 bif (decide (a6<z0)) then
 outO (some (([]:List (LU×(LU×(Int×(Int×(Int×(LU×(Int×(LU×(Int×(List LU))))))))))),(2:Int)))
 else
 bif (decide (a6 > (1099511627776:Int))) then
 outO (some (([]:List (LU×(LU×(Int×(Int×(Int×(LU×(Int×(LU×(Int×(List LU))))))))))),(2:Int)))
 else
 bif (decide (a7<z0)) then
 outO (some (([]:List (LU×(LU×(Int×(Int×(Int×(LU×(Int×(LU×(Int×(List LU))))))))))),(2:Int)))
 else
 some (Sum.inl ())) fun _ =>
 joinO (loopO (fun (v19,(v20,v21)) =>
 bif (decide (v19<(lI a5))) then
 bif (iR v19 a5) then
 bindO a5[(Int.toNat v19)]? fun x22 =>
 bif (decide (x22.1≠a8)) then
 bif (lE v21) then
 bif (rO ((tA v21)++((x22.1,(x22.2.1,(x22.2.2.1,(x22.2.2.2.1,(x22.2.2.2.2.1,(x22.2.2.2.2.2.1,(x22.2.2.2.2.2.2.1,(x22.2.2.2.2.2.2.2.1,(x22.2.2.2.2.2.2.2.2.1,x22.2.2.2.2.2.2.2.2.2)))))))))::([]:List (LU×(LU×(Int×(Int×(Int×(LU×(Int×(LU×(Int×(List LU))))))))))))) 128) then
 bindO (some ((tA v21)++((x22.1,(x22.2.1,(x22.2.2.1,(x22.2.2.2.1,(x22.2.2.2.2.1,(x22.2.2.2.2.2.1,(x22.2.2.2.2.2.2.1,(x22.2.2.2.2.2.2.2.1,(x22.2.2.2.2.2.2.2.2.1,x22.2.2.2.2.2.2.2.2.2)))))))))::([]:List (LU×(LU×(Int×(Int×(Int×(LU×(Int×(LU×(Int×(List LU)))))))))))))) fun x23 =>
 bif (lE x23) then
 some (Sum.inl ((wI (v19+z1)),(v20,(tA x23))))
 else none
 else none
 else none
 else
 bif (decide (x22.2.2.2.1≤a6)) then
 bif (lE v21) then
 some (Sum.inl ((wI (v19+z1)),(v20,(tA v21))))
 else none
 else
 bindO (registrar_touches ((a8,(a9,(a10,(a11,(a12,(a13,(a14,(a15,a16)))))))),(x22.1,(x22.2.1,(x22.2.2.1,(x22.2.2.2.1,(x22.2.2.2.2.1,(x22.2.2.2.2.2.1,(x22.2.2.2.2.2.2.1,(x22.2.2.2.2.2.2.2.1,(x22.2.2.2.2.2.2.2.2.1,x22.2.2.2.2.2.2.2.2.2))))))))))) fun x26 =>
 bif (!x26) then
 bif (lE v21) then
 bif (rO ((tA v21)++((x22.1,(x22.2.1,(x22.2.2.1,(x22.2.2.2.1,(x22.2.2.2.2.1,(x22.2.2.2.2.2.1,(x22.2.2.2.2.2.2.1,(x22.2.2.2.2.2.2.2.1,(x22.2.2.2.2.2.2.2.2.1,x22.2.2.2.2.2.2.2.2.2)))))))))::([]:List (LU×(LU×(Int×(Int×(Int×(LU×(Int×(LU×(Int×(List LU))))))))))))) 128) then
 bindO (some ((tA v21)++((x22.1,(x22.2.1,(x22.2.2.1,(x22.2.2.2.1,(x22.2.2.2.2.1,(x22.2.2.2.2.2.1,(x22.2.2.2.2.2.2.1,(x22.2.2.2.2.2.2.2.1,(x22.2.2.2.2.2.2.2.2.1,x22.2.2.2.2.2.2.2.2.2)))))))))::([]:List (LU×(LU×(Int×(Int×(Int×(LU×(Int×(LU×(Int×(List LU)))))))))))))) fun x27 =>
 bif (lE x27) then
 some (Sum.inl ((wI (v19+z1)),(v20,(tA x27))))
 else none
 else none
 else none
 else
 bif (decide (x22.2.2.2.2.2.1=a9)) then
 bif (decide (x22.2.2.2.2.2.2.1≥a10)) then
 bif (lE v21) then
 some (Sum.inl ((wI (v19+z1)),(Bool.true,(tA v21))))
 else none
 else
 bif (lE v21) then
 some (Sum.inl ((wI (v19+z1)),(v20,(tA v21))))
 else none
 else
 bif (lE v21) then
 some (Sum.inl ((wI (v19+z1)),(v20,(tA v21))))
 else none
 else none
 else
 outO (bif (lE v21) then
 some (Sum.inl (v20,(tA v21)))
 else none)) (z0,(Bool.false,([]:List (LU×(LU×(Int×(Int×(Int×(LU×(Int×(LU×(Int×(List LU)))))))))))))) fun (v32,v33) =>
 bif v32 then
 some (([]:List (LU×(LU×(Int×(Int×(Int×(LU×(Int×(LU×(Int×(List LU))))))))))),(13:Int))
 else
 joinO (bif (lE v33) then
 loopO (fun (v34,v35) =>
 bif (decide (v34<(lI a12))) then
 bif (iR v34 a12) then
 bindO a12[(Int.toNat v34)]? fun x36 =>
 bindO (registrar_expiry ((a1,(a2,(a3,a4))),((a8,(a9,(a10,(a11,(a12,(a13,(a14,(a15,a16)))))))),(x36.1,(x36.2.1,x36.2.2))))) fun x37 =>
 bif (decide (x37 > z0)) then
 bif (decide (x37<a1)) then
 outO (outO (some (([]:List (LU×(LU×(Int×(Int×(Int×(LU×(Int×(LU×(Int×(List LU))))))))))),(16:Int))))
 else
 bif (decide (x37≠z0)) then
 bindO (some (wI (a6+(wI ((1000:Int)*x37))))) fun x39 =>
 bif (lE v35) then
 bif (rO ((tA v35)++((a8,(x36.1,(x36.2.1,(x39,(a7,(a9,(a10,(a14,(a15,a16)))))))))::([]:List (LU×(LU×(Int×(Int×(Int×(LU×(Int×(LU×(Int×(List LU))))))))))))) 128) then
 bindO (some ((tA v35)++((a8,(x36.1,(x36.2.1,(x39,(a7,(a9,(a10,(a14,(a15,a16)))))))))::([]:List (LU×(LU×(Int×(Int×(Int×(LU×(Int×(LU×(Int×(List LU)))))))))))))) fun x40 =>
 bif (lE x40) then
 some (Sum.inl ((wI (v34+z1)),(tA x40)))
 else none
 else none
 else none
 else
 bif (lE v35) then
 some (Sum.inl ((wI (v34+z1)),(tA v35)))
 else none
 else
 bif (decide (x37≠z0)) then
 bindO (some (wI (a6+(wI ((1000:Int)*x37))))) fun x44 =>
 bif (lE v35) then
 bif (rO ((tA v35)++((a8,(x36.1,(x36.2.1,(x44,(a7,(a9,(a10,(a14,(a15,a16)))))))))::([]:List (LU×(LU×(Int×(Int×(Int×(LU×(Int×(LU×(Int×(List LU))))))))))))) 128) then
 bindO (some ((tA v35)++((a8,(x36.1,(x36.2.1,(x44,(a7,(a9,(a10,(a14,(a15,a16)))))))))::([]:List (LU×(LU×(Int×(Int×(Int×(LU×(Int×(LU×(Int×(List LU)))))))))))))) fun x45 =>
 bif (lE x45) then
 some (Sum.inl ((wI (v34+z1)),(tA x45)))
 else none
 else none
 else none
 else
 bif (lE v35) then
 some (Sum.inl ((wI (v34+z1)),(tA v35)))
 else none
 else none
 else
 outO (bif (lE v35) then
 some (Sum.inl (tA v35))
 else none)) (z0,(tA v33))
 else none) fun v48 =>
 joinO (loopO (fun (v49,v50) =>
 bif (decide (v49<(lI v48))) then
 bif (iR v49 v48) then
 bindO v48[(Int.toNat v49)]? fun x51 =>
 bif (decide (x51.1=a8)) then
 some (Sum.inl ((wI (v49+z1)),(wI (v50+z1))))
 else
 some (Sum.inl ((wI (v49+z1)),v50))
 else none
 else
 outO (some (Sum.inl v50))) (z0,z0)) fun v55 =>
 bif (decide (v55 > a4)) then
 some (([]:List (LU×(LU×(Int×(Int×(Int×(LU×(Int×(LU×(Int×(List LU))))))))))),(10:Int))
 else
 bif (lE v48) then
 bindO (registrar_copyOf (tA v48)) fun x56 =>
 some (x56,z0)
 else none
noncomputable def cons45:List (Nat×CE):=[(67,ce67),(77,ce77),(78,ce78),(12,ce12),(10,ce10)]
theorem cons45_ok:ConL Try.prog cons45:=⟨con67,con77,con78,con12,con10,trivial⟩
noncomputable def ce45:CE:=⟨[(.tmp 0 true [dI,dI,dI,dI]),(.tmp 1 false [(.dat (.list UBd))]),(.tmp 2 false [dI]),(.tmp 3 false [dI]),(.tmp 4 true [dS,dS,dI,dO,(.dat (.list (.pair .str (.pair uI6 uI6)))),dI,dS,dI,(.dat (.list .str))])],[(.tmp 0 false [(.dat (.list UBd))]),(.tmp 1 false [dE])],registrar_Update⟩
theorem con45:ConOk Try.prog 45 ce45 :=
 tree_ok (plan:=planOf plan45) (eg:=egNo) KK tabL_ok (conOf_ok cons45_ok) Try.func45 (by kernel_rfl) (by kernel_rfl) 10000 (fun a r h=>Eq.trans (show _=registrar_Update a from by kernel_rfl) h)
def plan44:List (Nat×PL):=[(134480385,(.carry [.tmp 7 false [(.own 10000002 76 UBd)]])),(18049651601311750,(.carry [.tmp 12 false [dI],.tmp 7 false [(.own 10000001 76 UBd)]]))]
noncomputable def registrar_Lookup:((List (LU×(LU×(Int×(Int×(Int×(LU×(Int×(LU×(Int×(List LU)))))))))))×(Int×LU))→Option (List (LU×(LU×(Int×(Int×(Int×(LU×(Int×(LU×(Int×(List LU))))))))))):=fun (a1,(a2,a3)) =>
 joinO (loopO (fun (v4,v5) =>
 bif (decide (v4<(lI a1))) then
 bif (iR v4 a1) then
 bindO a1[(Int.toNat v4)]? fun x6 =>
 bif (decide (x6.1=a3)) then
 bif (decide (x6.2.2.2.1 > a2)) then
 bif (lE v5) then
 bif (rO ((tA v5)++((x6.1,(x6.2.1,(x6.2.2.1,(x6.2.2.2.1,(x6.2.2.2.2.1,(x6.2.2.2.2.2.1,(x6.2.2.2.2.2.2.1,(x6.2.2.2.2.2.2.2.1,(x6.2.2.2.2.2.2.2.2.1,x6.2.2.2.2.2.2.2.2.2)))))))))::([]:List (LU×(LU×(Int×(Int×(Int×(LU×(Int×(LU×(Int×(List LU))))))))))))) 128) then
 bindO (some ((tA v5)++((x6.1,(x6.2.1,(x6.2.2.1,(x6.2.2.2.1,(x6.2.2.2.2.1,(x6.2.2.2.2.2.1,(x6.2.2.2.2.2.2.1,(x6.2.2.2.2.2.2.2.1,(x6.2.2.2.2.2.2.2.2.1,x6.2.2.2.2.2.2.2.2.2)))))))))::([]:List (LU×(LU×(Int×(Int×(Int×(LU×(Int×(LU×(Int×(List LU)))))))))))))) fun x7 =>
 bif (lE x7) then
 some (Sum.inl ((wI (v4+z1)),(tA x7)))
 else none
 else none
 else none
 else
 bif (lE v5) then
 some (Sum.inl ((wI (v4+z1)),(tA v5)))
 else none
 else
 bif (lE v5) then
 some (Sum.inl ((wI (v4+z1)),(tA v5)))
 else none
 else none
 else
 outO (bif (lE v5) then
 some (Sum.inl (tA v5))
 else none)) (z0,([]:List (LU×(LU×(Int×(Int×(Int×(LU×(Int×(LU×(Int×(List LU))))))))))))) fun v11 =>
 bif (lQ v11 v11) then
 bindO (slices_SortStableFunc___api_Binding_api_Binding v11) fun x12 =>
 bif (decide ((List.length v11)≤(List.length x12))) then
 bindO (registrar_copyOf (List.take (List.length v11) x12)) fun x13 =>
 some x13
 else none
 else none
noncomputable def cons44:List (Nat×CE):=[(67,ce67),(72,ce72)]
theorem cons44_ok:ConL Try.prog cons44:=⟨con67,con72,trivial⟩
noncomputable def ce44:CE:=⟨[(.tmp 0 false [(.dat (.list UBd))]),(.tmp 1 false [dI]),(.tmp 2 false [dS])],[(.tmp 0 false [(.dat (.list UBd))])],registrar_Lookup⟩
theorem con44:ConOk Try.prog 44 ce44 :=
 tree_ok (plan:=planOf plan44) (eg:=egNo) KK tabL_ok (conOf_ok cons44_ok) Try.func44 (by kernel_rfl) (by kernel_rfl) 10000 (fun a r h=>Eq.trans (show _=registrar_Lookup a from by kernel_rfl) h)
def plan20:List (Nat×PL):=[(134480385,(.carry [])),(18049651601311750,(.carry [.tmp 5 false [dI]]))]
noncomputable def dialtoneref22_Same:((List (LU×(LU×(Int×(Int×(Int×(LU×(Int×(LU×(Int×(List LU)))))))))))×(List (LU×(LU×(Int×(Int×(Int×(LU×(Int×(LU×(Int×(List LU))))))))))))→Option Bool:=fun (a1,a2) =>
 bif (decide ((lI a1)≠(lI a2))) then
 some Bool.false
 else
 joinO (loopO (fun v3 =>
 bif (decide (v3<(lI a1))) then
 bif (iR v3 a1) then
 bindO a1[(Int.toNat v3)]? fun x4 =>
 bif (iR v3 a2) then
 bindO a2[(Int.toNat v3)]? fun x5 =>
 bif (decide (x4.1≠x5.1)) then
 outO (outO (some Bool.false))
 else
 bif (decide (x4.2.1≠x5.2.1)) then
 outO (outO (some Bool.false))
 else
 bif (decide (x4.2.2.1≠x5.2.2.1)) then
 outO (outO (some Bool.false))
 else
 bif (decide (x4.2.2.2.1≠x5.2.2.2.1)) then
 outO (outO (some Bool.false))
 else
 bif (decide (x4.2.2.2.2.1≠x5.2.2.2.2.1)) then
 outO (outO (some Bool.false))
 else
 bif (decide (x4.2.2.2.2.2.1≠x5.2.2.2.2.2.1)) then
 outO (outO (some Bool.false))
 else
 bif (decide (x4.2.2.2.2.2.2.1≠x5.2.2.2.2.2.2.1)) then
 outO (outO (some Bool.false))
 else
 bif (decide (x4.2.2.2.2.2.2.2.1≠x5.2.2.2.2.2.2.2.1)) then
 outO (outO (some Bool.false))
 else
 bif (decide (x4.2.2.2.2.2.2.2.2.1≠x5.2.2.2.2.2.2.2.2.1)) then
 outO (outO (some Bool.false))
 else
 bindO (dialtoneref22_strings (x4.2.2.2.2.2.2.2.2.2,x5.2.2.2.2.2.2.2.2.2)) fun x6 =>
 bif (!x6) then
 outO (outO (some Bool.false))
 else
 some (Sum.inl (wI (v3+z1)))
 else none
 else none
 else
 outO (some (Sum.inl ()))) z0) fun _ =>
 some Bool.true
noncomputable def cons20:List (Nat×CE):=[(50,ce50)]
theorem cons20_ok:ConL Try.prog cons20:=⟨con50,trivial⟩
noncomputable def ce20:CE:=⟨[(.tmp 0 false [(.dat (.list UBd))]),(.tmp 1 false [(.dat (.list UBd))])],[(.tmp 0 false [dO])],dialtoneref22_Same⟩
theorem con20:ConOk Try.prog 20 ce20 :=
 tree_ok (plan:=planOf plan20) (eg:=egNo) KK tabL_ok (conOf_ok cons20_ok) Try.func20 (by kernel_rfl) (by kernel_rfl) 10000 (fun a r h=>Eq.trans (show _=dialtoneref22_Same a from by kernel_rfl) h)
end Go.Proofs.Ytlaccfegaoaakaa

set_option maxRecDepth 1000000
set_option maxHeartbeats 0
namespace Go.Proofs.Ytlaccfegaoaakaa
open Go.RowKit
def plan18:List (Nat×PL):=[]
noncomputable def registrar_Registrar_Register:(Int×((LU×(LU×(Int×(Bool×((List (LU×(Int×Int)))×(Int×(LU×(Int×(List LU)))))))))×(Int×(Int×(Int×(Int×((List (LU×(LU×(Int×(Int×(Int×(LU×(Int×(LU×(Int×(List LU)))))))))))×(LN×(Int×(Int×Int))))))))))→Option ((List (LU×(LU×(Int×(Int×(Int×(LU×(Int×(LU×(Int×(List LU)))))))))))×(Int×(Int×(Int×(Int×(Int×((List (LU×(LU×(Int×(Int×(Int×(LU×(Int×(LU×(Int×(List LU)))))))))))×(LN×(Int×(Int×Int)))))))))):=fun (a1,((a2,(a3,(a4,(a5,(a6,(a7,(a8,(a9,a10)))))))),(a11,(a12,(a13,(a14,(a15,(a16,(a17,(a18,a19)))))))))) =>
 bindO (registrar_Valid (a11,(a12,(a13,a14)))) fun x20 =>
 bif (!x20) then
 some (([]:List (LU×(LU×(Int×(Int×(Int×(LU×(Int×(LU×(Int×(List LU))))))))))),(z1,(a11,(a12,(a13,(a14,(a15,(a16,(a17,(a18,a19))))))))))
 else
 bindO (registrar_EncodeAct (a1,(a2,(a3,(a4,(a5,(a6,(a7,(a8,(a9,a10)))))))))) fun (x22,x23) =>
 bif (decide (x23≠z0)) then
 some (([]:List (LU×(LU×(Int×(Int×(Int×(LU×(Int×(LU×(Int×(List LU))))))))))),(x23,(a11,(a12,(a13,(a14,(a15,(a16,(a17,(a18,a19))))))))))
 else
 bif (decide (a1<a19)) then
 some (([]:List (LU×(LU×(Int×(Int×(Int×(LU×(Int×(LU×(Int×(List LU))))))))))),((9:Int),(a11,(a12,(a13,(a14,(a15,(a16,(a17,(a18,a19))))))))))
 else
 bif (!a5) then
 bif (decide ((lI a6)=z0)) then
 bindO (registrar_Lookup (a15,(a1,a2))) fun x24 =>
 some (x24,(z0,(a11,(a12,(a13,(a14,(a15,(a16,(a17,(a18,a19))))))))))
 else
 bindO (registrar_Update ((a11,(a12,(a13,a14))),(a15,(a1,(a18,(a2,(a3,(a4,(a5,(a6,(a7,(a8,(a9,a10))))))))))))) fun (x26,x27) =>
 bif (decide (x27≠z0)) then
 some (([]:List (LU×(LU×(Int×(Int×(Int×(LU×(Int×(LU×(Int×(List LU))))))))))),(x27,(a11,(a12,(a13,(a14,(a15,(a16,(a17,(a18,a19))))))))))
 else
 bindO (journal_Append ((a16,(a17,a18)),(z1,x22))) fun ((x29,(x30,x31)),x32) =>
 bif (decide (x32≠z0)) then
 some (([]:List (LU×(LU×(Int×(Int×(Int×(LU×(Int×(LU×(Int×(List LU))))))))))),(x32,(a11,(a12,(a13,(a14,(a15,(a16,(a17,(a18,a19))))))))))
 else
 bindO (registrar_Lookup (x26,(a1,a2))) fun x33 =>
 some (x33,(z0,(a11,(a12,(a13,(a14,(x26,(x29,(x30,(x31,a1))))))))))
 else
 bindO (registrar_Update ((a11,(a12,(a13,a14))),(a15,(a1,(a18,(a2,(a3,(a4,(a5,(a6,(a7,(a8,(a9,a10))))))))))))) fun (x35,x36) =>
 bif (decide (x36≠z0)) then
 some (([]:List (LU×(LU×(Int×(Int×(Int×(LU×(Int×(LU×(Int×(List LU))))))))))),(x36,(a11,(a12,(a13,(a14,(a15,(a16,(a17,(a18,a19))))))))))
 else
 bindO (journal_Append ((a16,(a17,a18)),(z1,x22))) fun ((x38,(x39,x40)),x41) =>
 bif (decide (x41≠z0)) then
 some (([]:List (LU×(LU×(Int×(Int×(Int×(LU×(Int×(LU×(Int×(List LU))))))))))),(x41,(a11,(a12,(a13,(a14,(a15,(a16,(a17,(a18,a19))))))))))
 else
 bindO (registrar_Lookup (x35,(a1,a2))) fun x42 =>
 some (x42,(z0,(a11,(a12,(a13,(a14,(x35,(x38,(x39,(x40,a1))))))))))
noncomputable def cons18:List (Nat×CE):=[(44,ce44),(45,ce45),(46,cej46),(22,ce22),(10,ce10)]
theorem cons18_ok:ConL Try.prog cons18:=⟨con44,con45,conj46,con22,con10,trivial⟩
noncomputable def ce18:CE:=⟨[.tmp 0 false [.pt 20000010 0],.tmp 1 false [.dat uI6],.tmp 2 true [.dat .str,.dat .str,.dat uI6,.dat .bool,.dat (.list (.pair .str (.pair uI6 uI6))),.dat uI6,.dat .str,.dat uI6,.dat (.list .str)],.mix 20000010 [.dat uI6,.dat uI6,.dat uI6,.dat uI6,.dat (.list UBd),.dat (.list uI8),.dat uI6,.dat uI6,.dat uI6]],[.tmp 0 false [(.dat (.list UBd))],.tmp 1 false [dE],.mix 20000010 [dI,dI,dI,dI,(.dat (.list UBd)),dY,dI,dI,dI]],registrar_Registrar_Register⟩
theorem con18:ConOk Try.prog 18 ce18 :=
 conS_ok (tree_okS (plan:=planOf plan18) (eg:=egNo) KK tabL_ok (conOf_ok cons18_ok) Try.func18 (by kernel_rfl) (by kernel_rfl) 10000 (fun a r h=>Eq.trans (show _=registrar_Registrar_Register a from by kernel_rfl) h)) (by rfl)
def plan31:List (Nat×PL):=[]
noncomputable def registrar_Registrar_All:(Int×(Int×(Int×(Int×((List (LU×(LU×(Int×(Int×(Int×(LU×(Int×(LU×(Int×(List LU)))))))))))×(LN×(Int×(Int×Int))))))))→Option (List (LU×(LU×(Int×(Int×(Int×(LU×(Int×(LU×(Int×(List LU))))))))))):=fun (a1,(a2,(a3,(a4,(a5,(a6,(a7,(a8,a9)))))))) =>
 bindO (registrar_Valid (a1,(a2,(a3,a4)))) fun x10 =>
 bif (!x10) then
 some ([]:List (LU×(LU×(Int×(Int×(Int×(LU×(Int×(LU×(Int×(List LU)))))))))))
 else
 bindO (registrar_copyOf a5) fun x11 =>
 some x11
noncomputable def cons31:List (Nat×CE):=[(67,ce67),(10,ce10)]
theorem cons31_ok:ConL Try.prog cons31:=⟨con67,con10,trivial⟩
noncomputable def ce31:CE:=⟨[.tmp 0 false [.pt 20000010 0],.mix 20000010 [.dat uI6,.dat uI6,.dat uI6,.dat uI6,.dat (.list UBd),.dat (.list uI8),.dat uI6,.dat uI6,.dat uI6]],[.tmp 0 false [(.dat (.list UBd))]],registrar_Registrar_All⟩
theorem con31:ConOk Try.prog 31 ce31 :=
 conS_ok (tree_okS (plan:=planOf plan31) (eg:=egNo) KK tabL_ok (conOf_ok cons31_ok) Try.func31 (by kernel_rfl) (by kernel_rfl) 10000 (fun a r h=>Eq.trans (show _=registrar_Registrar_All a from by kernel_rfl) h)) (by rfl)
def plan30:List (Nat×PL):=[]
noncomputable def registrar_Registrar_Log:(Int×(Int×(Int×(Int×((List (LU×(LU×(Int×(Int×(Int×(LU×(Int×(LU×(Int×(List LU)))))))))))×(LN×(Int×(Int×Int))))))))→Option (LN×(Int×Int)):=fun (a1,(a2,(a3,(a4,(a5,(a6,(a7,(a8,a9)))))))) =>
 bindO (registrar_Valid (a1,(a2,(a3,a4)))) fun x10 =>
 bif (!x10) then
 some (([]:List Int),(z0,z0))
 else
 bindO (cloneB a6) fun x11 =>
 bif (lE x11) then
 some ((tA x11),(a7,a8))
 else none
noncomputable def ce_clone_conm66:CE:=⟨[.tmp 0 false [.own 20000001 5 uI8]],[.tmp 0 false [.own 20000002 5 uI8]],cloneB⟩
noncomputable def ce_clone_con66:CE:=⟨[.tmp 0 false [.dat (.list uI8)]],[.tmp 0 false [.own 1 5 uI8]],cloneB⟩
noncomputable def cons30:List (Nat×CE):=[(1000000066,ce_clone_conm66),(66,ce_clone_con66),(10,ce10)]
theorem cons30_ok:ConL Try.prog cons30:=⟨clone_conm66,clone_con66,con10,trivial⟩
noncomputable def ce30:CE:=⟨[.tmp 0 false [.pt 20000010 0],.mix 20000010 [.dat uI6,.dat uI6,.dat uI6,.dat uI6,.dat (.list UBd),.dat (.list uI8),.dat uI6,.dat uI6,.dat uI6]],[.tmp 0 true [(.own 10000001 5 uI8),dI,dI]],registrar_Registrar_Log⟩
theorem con30:ConOk Try.prog 30 ce30 :=
 conS_ok (tree_okS (plan:=planOf plan30) (eg:=egNo) KK tabL_ok (conOf_ok cons30_ok) Try.func30 (by kernel_rfl) (by kernel_rfl) 10000 (fun a r h=>Eq.trans (show _=registrar_Registrar_Log a from by kernel_rfl) h)) (by rfl)
def plan16_syncM:List (Nat×PL):=[]
noncomputable def syncM:(Int×(Int×(Int×(Int×((List (LU×(LU×(Int×(Int×(Int×(LU×(Int×(LU×(Int×(List LU)))))))))))×(LN×(Int×(Int×Int))))))))→Option (Int×(Int×(Int×(Int×(Int×((List (LU×(LU×(Int×(Int×(Int×(LU×(Int×(LU×(Int×(List LU)))))))))))×(LN×(Int×(Int×Int))))))))):=fun (a1,(a2,(a3,(a4,(a5,(a6,(a7,(a8,a9)))))))) =>
 bindO (registrar_Valid (a1,(a2,(a3,a4)))) fun x10 =>
 bif (!x10) then
 some (z1,(a1,(a2,(a3,(a4,(a5,(a6,(a7,(a8,a9)))))))))
 else
 bindO (journal_Sync (a6,(a7,a8))) fun (x12,(x13,x14)) =>
 some (z0,(a1,(a2,(a3,(a4,(a5,(x12,(x13,(x14,a9)))))))))
noncomputable def cons16_syncM:List (Nat×CE):=[(41,cej41),(10,ce10)]
theorem cons16_syncM_ok:ConL Try.prog cons16_syncM:=⟨conj41,con10,trivial⟩
noncomputable def ce16_syncM:CE:=⟨[.tmp 0 false [.pt 20000010 0],.mix 20000010 [.dat uI6,.dat uI6,.dat uI6,.dat uI6,.dat (.list UBd),.dat (.list uI8),.dat uI6,.dat uI6,.dat uI6]],[.tmp 0 false [dE],.mix 20000010 [dI,dI,dI,dI,(.dat (.list UBd)),dY,dI,dI,dI]],syncM⟩
theorem con16_syncM:ConOk Try.prog 16 ce16_syncM :=
 conS_ok (tree_okS (plan:=planOf plan16_syncM) (eg:=egNo) KK tabL_ok (conOf_ok cons16_syncM_ok) Try.func16 (by kernel_rfl) (by kernel_rfl) 10000 (fun a r h=>Eq.trans (show _=syncM a from by kernel_rfl) h)) (by rfl)
end Go.Proofs.Ytlaccfegaoaakaa

set_option maxRecDepth 100000
namespace Go.Proofs.Ytlaccfegaoaakaa
open Go.RowKit
def rCs (r:Rg9):List Ct:=r.2.2.2.2.1
abbrev Cf:=Int×(Int×(Int×Int))
noncomputable def coB {δ:Type} (x2:List Bnd):(Int×List Bnd)→Option ((Int×List Bnd) ⊕ (List Bnd ⊕ δ)) :=
(fun (v3,v4) =>
 bif (decide (v3<(((List.length x2):Nat):Int))) then
 bif (decide (((0:Int)≤v3)∧(v3<(((List.length x2):Nat):Int)))) then
 bindO v4[(Int.toNat v3)]? fun x5 =>
 bindO (cloneG x5.2.2.2.2.2.2.2.2.2) fun x6 =>
 bif (decide (((0:Int)≤v3)∧(v3<(((List.length x2):Nat):Int)))) then
 bindO v4[(Int.toNat v3)]? fun x7 =>
 bif (decide ((List.length x6)≤(List.length x6))) then
 some (Sum.inl ((Go.IntKind.wrap .i64 (v3+(1:Int))),(List.set v4 (Int.toNat v3) (x7.1,(x7.2.1,(x7.2.2.1,(x7.2.2.2.1,(x7.2.2.2.2.1,(x7.2.2.2.2.2.1,(x7.2.2.2.2.2.2.1,(x7.2.2.2.2.2.2.2.1,(x7.2.2.2.2.2.2.2.2.1,(List.take (List.length x6) x6)))))))))))))
 else none
 else none
 else none
 else
 outO (some (Sum.inl v4)))
theorem co_eq (a1:List Bnd):registrar_copyOf a1 =
 bindO (cloneG a1) fun x2 =>
 joinO (loopO (coB x2) ((0:Int),x2)) fun v9 =>
 bif (decide ((List.length x2)≤(List.length v9))) then
  some (List.take (List.length x2) v9)
 else none:=rfl
noncomputable def luB {δ:Type} (a1:List Bnd) (a2:Int) (a3:Tx):(Int×List Bnd)→Option ((Int×List Bnd) ⊕ (List Bnd ⊕ δ)) :=
(fun (v4,v5) =>
 bif (decide (v4<(((List.length a1):Nat):Int))) then
 bif (decide (((0:Int)≤v4)∧(v4<(((List.length a1):Nat):Int)))) then
 bindO a1[(Int.toNat v4)]? fun x6 =>
 bif (decide (x6.1=a3)) then
 bif (decide (x6.2.2.2.1 > a2)) then
 bif (decide ((List.length v5)≤(List.length v5))) then
 bif (decide (((List.length ((List.take (List.length v5) v5)++(x6::([]:List Bnd))))*128)≤140737488355328)) then
 bindO (some ((List.take (List.length v5) v5)++(x6::([]:List Bnd)))) fun x7 =>
 bif (decide ((List.length x7)≤(List.length x7))) then
 some (Sum.inl ((Go.IntKind.wrap .i64 (v4+(1:Int))),(List.take (List.length x7) x7)))
 else none
 else none
 else none
 else
 bif (decide ((List.length v5)≤(List.length v5))) then
 some (Sum.inl ((Go.IntKind.wrap .i64 (v4+(1:Int))),(List.take (List.length v5) v5)))
 else none
 else
 bif (decide ((List.length v5)≤(List.length v5))) then
 some (Sum.inl ((Go.IntKind.wrap .i64 (v4+(1:Int))),(List.take (List.length v5) v5)))
 else none
 else none
 else
 outO (bif (decide ((List.length v5)≤(List.length v5))) then
 some (Sum.inl (List.take (List.length v5) v5))
 else none))
theorem lu_eq (a1:List Bnd) (a2:Int) (a3:Tx):registrar_Lookup (a1,(a2,a3)) =
 joinO (loopO (luB a1 a2 a3) ((0:Int),([]:List Bnd))) fun v11 =>
 bif (decide ((List.length v11)=(List.length v11))) then
  bindO (slices_SortStableFunc___api_Binding_api_Binding v11) fun x12 =>
  bif (decide ((List.length v11)≤(List.length x12))) then
   bindO (registrar_copyOf (List.take (List.length v11) x12)) fun x13 =>
   some x13
  else none
 else none:=rfl
noncomputable def toA {δ:Type} (r:Rg9) (b:Bnd):(Int)→Option ((Int) ⊕ (Unit ⊕ (Int ⊕ δ))) :=
(fun v20 =>
 bif (decide (v20<(((List.length (rCs r)):Nat):Int))) then
 bif (decide (((0:Int)≤v20)∧(v20<(((List.length (rCs r)):Nat):Int)))) then
 bindO (rCs r)[(Int.toNat v20)]? fun x21 =>
 bif (decide (x21.1=b.2.1)) then
 outO (outO (some (Sum.inl v20)))
 else
 bif (decide (b.2.2.2.2.2.2.2.1=r.2.2.2.2.2.2.1)) then
 outO (outO (some (Sum.inl v20)))
 else
 some (Sum.inl (Go.IntKind.wrap .i64 (v20+(1:Int))))
 else none
 else
 outO (some (Sum.inl ())))
noncomputable def toC {δ:Type} (r:Rg9) (b:Bnd):(Int)→Option ((Int) ⊕ (Unit ⊕ (Int ⊕ δ))) :=
(fun v24 =>
 bif (decide (v24<(((List.length (rCs r)):Nat):Int))) then
 bif (decide (((0:Int)≤v24)∧(v24<(((List.length (rCs r)):Nat):Int)))) then
 bindO (rCs r)[(Int.toNat v24)]? fun x25 =>
 bif (decide (x25.1=b.2.1)) then
 outO (outO (some (Sum.inl v24)))
 else
 some (Sum.inl (Go.IntKind.wrap .i64 (v24+(1:Int))))
 else none
 else
 outO (some (Sum.inl ())))
noncomputable def toD {δ:Type} (r:Rg9) (b:Bnd):(Int)→Option ((Int) ⊕ (Unit ⊕ (Int ⊕ δ))) :=
(fun v28 =>
 bif (decide (v28<(((List.length (rCs r)):Nat):Int))) then
 bif (decide (((0:Int)≤v28)∧(v28<(((List.length (rCs r)):Nat):Int)))) then
 bindO (rCs r)[(Int.toNat v28)]? fun x29 =>
 bif (decide (x29.1=b.2.1)) then
 outO (outO (some (Sum.inl v28)))
 else
 some (Sum.inl (Go.IntKind.wrap .i64 (v28+(1:Int))))
 else none
 else
 outO (some (Sum.inl ())))
theorem to_eq (r:Rg9) (b:Bnd):registrar_touches (r,b) =
 bif r.2.2.2.1 then
  some Bool.true
 else
  bif (decide (r.2.2.2.2.2.2.2.1≠(0:Int))) then
   bif (decide (b.2.2.2.2.2.2.2.2.1=r.2.2.2.2.2.2.2.1)) then
    joinO (joinO (loopO (toA r b) (0:Int)) fun _ =>
 some (Sum.inl (-1:Int))) fun v23 =>
    some (decide (v23≥(0:Int)))
   else
    joinO (joinO (loopO (toC r b) (0:Int)) fun _ =>
 some (Sum.inl (-1:Int))) fun v27 =>
    some (decide (v27≥(0:Int)))
  else
   joinO (joinO (loopO (toD r b) (0:Int)) fun _ =>
 some (Sum.inl (-1:Int))) fun v31 =>
   some (decide (v31≥(0:Int))):=rfl
noncomputable def upA {δ:Type} (a5:List Bnd) (a6:Int) (r:Rg9):(Int×(Bool×List Bnd))→Option ((Int×(Bool×List Bnd)) ⊕ ((Bool×List Bnd) ⊕ δ)) :=
(fun (v19,(v20,v21)) =>
 bif (decide (v19<(((List.length a5):Nat):Int))) then
 bif (decide (((0:Int)≤v19)∧(v19<(((List.length a5):Nat):Int)))) then
 bindO a5[(Int.toNat v19)]? fun x22 =>
 bif (decide (x22.1≠r.1)) then
 bif (decide ((List.length v21)≤(List.length v21))) then
 bif (decide (((List.length ((List.take (List.length v21) v21)++(x22::([]:List Bnd))))*128)≤140737488355328)) then
 bindO (some ((List.take (List.length v21) v21)++(x22::([]:List Bnd)))) fun x23 =>
 bif (decide ((List.length x23)≤(List.length x23))) then
 some (Sum.inl ((Go.IntKind.wrap .i64 (v19+(1:Int))),(v20,(List.take (List.length x23) x23))))
 else none
 else none
 else none
 else
 bif (decide (x22.2.2.2.1≤a6)) then
 bif (decide ((List.length v21)≤(List.length v21))) then
 some (Sum.inl ((Go.IntKind.wrap .i64 (v19+(1:Int))),(v20,(List.take (List.length v21) v21))))
 else none
 else
 bindO (registrar_touches (r,x22)) fun x26 =>
 bif (!x26) then
 bif (decide ((List.length v21)≤(List.length v21))) then
 bif (decide (((List.length ((List.take (List.length v21) v21)++(x22::([]:List Bnd))))*128)≤140737488355328)) then
 bindO (some ((List.take (List.length v21) v21)++(x22::([]:List Bnd)))) fun x27 =>
 bif (decide ((List.length x27)≤(List.length x27))) then
 some (Sum.inl ((Go.IntKind.wrap .i64 (v19+(1:Int))),(v20,(List.take (List.length x27) x27))))
 else none
 else none
 else none
 else
 bif (decide (x22.2.2.2.2.2.1=r.2.1)) then
 bif (decide (x22.2.2.2.2.2.2.1≥r.2.2.1)) then
 bif (decide ((List.length v21)≤(List.length v21))) then
 some (Sum.inl ((Go.IntKind.wrap .i64 (v19+(1:Int))),(Bool.true,(List.take (List.length v21) v21))))
 else none
 else
 bif (decide ((List.length v21)≤(List.length v21))) then
 some (Sum.inl ((Go.IntKind.wrap .i64 (v19+(1:Int))),(v20,(List.take (List.length v21) v21))))
 else none
 else
 bif (decide ((List.length v21)≤(List.length v21))) then
 some (Sum.inl ((Go.IntKind.wrap .i64 (v19+(1:Int))),(v20,(List.take (List.length v21) v21))))
 else none
 else none
 else
 outO (bif (decide ((List.length v21)≤(List.length v21))) then
 some (Sum.inl (v20,(List.take (List.length v21) v21)))
 else none))
noncomputable def upB (c:Cf) (a6 a7:Int) (r:Rg9):(Int×List Bnd)→Option ((Int×List Bnd) ⊕ (List Bnd ⊕ (List Bnd×Int))) :=
(fun (v34,v35) =>
 bif (decide (v34<(((List.length (rCs r)):Nat):Int))) then
 bif (decide (((0:Int)≤v34)∧(v34<(((List.length (rCs r)):Nat):Int)))) then
 bindO (rCs r)[(Int.toNat v34)]? fun x36 =>
 bindO (registrar_expiry (c,(r,x36))) fun x37 =>
 bif (decide (x37 > (0:Int))) then
 bif (decide (x37<c.1)) then
 outO (outO (some (([]:List Bnd),(16:Int))))
 else
 bif (decide (x37≠(0:Int))) then
 bindO (some (Go.IntKind.wrap .i64 (a6+(Go.IntKind.wrap .i64 ((1000:Int)*x37))))) fun x39 =>
 bif (decide ((List.length v35)≤(List.length v35))) then
 bif (decide (((List.length ((List.take (List.length v35) v35)++((r.1,(x36.1,(x36.2.1,(x39,(a7,(r.2.1,(r.2.2.1,(r.2.2.2.2.2.2.1,(r.2.2.2.2.2.2.2.1,r.2.2.2.2.2.2.2.2)))))))))::([]:List Bnd))))*128)≤140737488355328)) then
 bindO (some ((List.take (List.length v35) v35)++((r.1,(x36.1,(x36.2.1,(x39,(a7,(r.2.1,(r.2.2.1,(r.2.2.2.2.2.2.1,(r.2.2.2.2.2.2.2.1,r.2.2.2.2.2.2.2.2)))))))))::([]:List Bnd)))) fun x40 =>
 bif (decide ((List.length x40)≤(List.length x40))) then
 some (Sum.inl ((Go.IntKind.wrap .i64 (v34+(1:Int))),(List.take (List.length x40) x40)))
 else none
 else none
 else none
 else
 bif (decide ((List.length v35)≤(List.length v35))) then
 some (Sum.inl ((Go.IntKind.wrap .i64 (v34+(1:Int))),(List.take (List.length v35) v35)))
 else none
 else
 bif (decide (x37≠(0:Int))) then
 bindO (some (Go.IntKind.wrap .i64 (a6+(Go.IntKind.wrap .i64 ((1000:Int)*x37))))) fun x44 =>
 bif (decide ((List.length v35)≤(List.length v35))) then
 bif (decide (((List.length ((List.take (List.length v35) v35)++((r.1,(x36.1,(x36.2.1,(x44,(a7,(r.2.1,(r.2.2.1,(r.2.2.2.2.2.2.1,(r.2.2.2.2.2.2.2.1,r.2.2.2.2.2.2.2.2)))))))))::([]:List Bnd))))*128)≤140737488355328)) then
 bindO (some ((List.take (List.length v35) v35)++((r.1,(x36.1,(x36.2.1,(x44,(a7,(r.2.1,(r.2.2.1,(r.2.2.2.2.2.2.1,(r.2.2.2.2.2.2.2.1,r.2.2.2.2.2.2.2.2)))))))))::([]:List Bnd)))) fun x45 =>
 bif (decide ((List.length x45)≤(List.length x45))) then
 some (Sum.inl ((Go.IntKind.wrap .i64 (v34+(1:Int))),(List.take (List.length x45) x45)))
 else none
 else none
 else none
 else
 bif (decide ((List.length v35)≤(List.length v35))) then
 some (Sum.inl ((Go.IntKind.wrap .i64 (v34+(1:Int))),(List.take (List.length v35) v35)))
 else none
 else none
 else
 outO (bif (decide ((List.length v35)≤(List.length v35))) then
 some (Sum.inl (List.take (List.length v35) v35))
 else none))
noncomputable def upC {δ:Type} (v48:List Bnd) (r:Rg9):(Int×Int)→Option ((Int×Int) ⊕ (Int ⊕ δ)) :=
(fun (v49,v50) =>
 bif (decide (v49<(((List.length v48):Nat):Int))) then
 bif (decide (((0:Int)≤v49)∧(v49<(((List.length v48):Nat):Int)))) then
 bindO v48[(Int.toNat v49)]? fun x51 =>
 bif (decide (x51.1=r.1)) then
 some (Sum.inl ((Go.IntKind.wrap .i64 (v49+(1:Int))),(Go.IntKind.wrap .i64 (v50+(1:Int)))))
 else
 some (Sum.inl ((Go.IntKind.wrap .i64 (v49+(1:Int))),v50))
 else none
 else
 outO (some (Sum.inl v50)))
theorem up_eq (c:Cf) (a5:List Bnd) (a6 a7:Int) (r:Rg9):registrar_Update (c,(a5,(a6,(a7,r)))) =
 joinO (bindO (registrar_Valid c) fun x17 =>
 bif (!x17) then
 outO (some (([]:List Bnd),(2:Int)))
 else
 bindO (registrar_Formed r) fun x18 =>
 bif (!x18) then
 outO (some (([]:List Bnd),(2:Int)))
 else
 bif (decide (a6<(0:Int))) then
 outO (some (([]:List Bnd),(2:Int)))
 else
 bif (decide (a6 > (1099511627776:Int))) then
 outO (some (([]:List Bnd),(2:Int)))
 else
 bif (decide (a7<(0:Int))) then
 outO (some (([]:List Bnd),(2:Int)))
 else
 some (Sum.inl ())) fun _ =>
 joinO (loopO (upA a5 a6 r) ((0:Int),(Bool.false,([]:List Bnd)))) fun (v32,v33) =>
 bif v32 then
  some (([]:List Bnd),(13:Int))
 else
  joinO (bif (decide ((List.length v33)≤(List.length v33))) then
 loopO (upB c a6 a7 r) ((0:Int),(List.take (List.length v33) v33))
 else none) fun v48 =>
  joinO (loopO (upC v48 r) ((0:Int),(0:Int))) fun v55 =>
  bif (decide (v55 > c.2.2.2)) then
   some (([]:List Bnd),(10:Int))
  else
   bif (decide ((List.length v48)≤(List.length v48))) then
    bindO (registrar_copyOf (List.take (List.length v48) v48)) fun x56 =>
    some (x56,(0:Int))
   else none:=rfl
noncomputable def smS (a1 a2:List Bnd):(Int)→Option ((Int) ⊕ (Unit ⊕ Bool)) :=
(fun v3 =>
 bif (decide (v3<(((List.length a1):Nat):Int))) then
 bif (decide (((0:Int)≤v3)∧(v3<(((List.length a1):Nat):Int)))) then
 bindO a1[(Int.toNat v3)]? fun x4 =>
 bif (decide (((0:Int)≤v3)∧(v3<(((List.length a2):Nat):Int)))) then
 bindO a2[(Int.toNat v3)]? fun x5 =>
 bif (decide (x4.1≠x5.1)) then
 outO (outO (some Bool.false))
 else
 bif (decide (x4.2.1≠x5.2.1)) then
 outO (outO (some Bool.false))
 else
 bif (decide (x4.2.2.1≠x5.2.2.1)) then
 outO (outO (some Bool.false))
 else
 bif (decide (x4.2.2.2.1≠x5.2.2.2.1)) then
 outO (outO (some Bool.false))
 else
 bif (decide (x4.2.2.2.2.1≠x5.2.2.2.2.1)) then
 outO (outO (some Bool.false))
 else
 bif (decide (x4.2.2.2.2.2.1≠x5.2.2.2.2.2.1)) then
 outO (outO (some Bool.false))
 else
 bif (decide (x4.2.2.2.2.2.2.1≠x5.2.2.2.2.2.2.1)) then
 outO (outO (some Bool.false))
 else
 bif (decide (x4.2.2.2.2.2.2.2.1≠x5.2.2.2.2.2.2.2.1)) then
 outO (outO (some Bool.false))
 else
 bif (decide (x4.2.2.2.2.2.2.2.2.1≠x5.2.2.2.2.2.2.2.2.1)) then
 outO (outO (some Bool.false))
 else
 bindO (dialtoneref22_strings (x4.2.2.2.2.2.2.2.2.2,x5.2.2.2.2.2.2.2.2.2)) fun x6 =>
 bif (!x6) then
 outO (outO (some Bool.false))
 else
 some (Sum.inl (Go.IntKind.wrap .i64 (v3+(1:Int))))
 else none
 else none
 else
 outO (some (Sum.inl ())))
theorem sa_eq (a1 a2:List Bnd):dialtoneref22_Same (a1,a2) =
 bif (decide ((((List.length a1):Nat):Int)≠(((List.length a2):Nat):Int))) then
  some Bool.false
 else
  joinO (loopO (smS a1 a2) (0:Int)) fun _ =>
  some Bool.true:=rfl
noncomputable def k3B {δ:Type} (x21 x22 x23:Int):(Int)→Option ((Int) ⊕ (Unit ⊕ (Int ⊕ δ))) :=
(fun v24 =>
 bif (decide (v24<(3:Int))) then
 bif (decide (((0:Int)≤v24)∧(v24<(3:Int)))) then
 bindO (x21::(x22::(x23::([]:List Int))))[(Int.toNat v24)]? fun x25 =>
 bif (decide (x25≠(0:Int))) then
 outO (outO (some (Sum.inl x25)))
 else
 some (Sum.inl (Go.IntKind.wrap .i64 (v24+(1:Int))))
 else none
 else
 outO (some (Sum.inl ())))
theorem k3_eq (a b:Bnd):registrar_Lookup_1 (a,b) =
 bindO (cmp_Compare_int (b.2.2.1,a.2.2.1)) fun x21 =>
 bindO (cmp_Compare_int (b.2.2.2.2.1,a.2.2.2.2.1)) fun x22 =>
 bindO (cmp_Compare_string (a.2.1,b.2.1)) fun x23 =>
 joinO (joinO (loopO (k3B x21 x22 x23) (0:Int)) fun _ =>
 some (Sum.inl (0:Int))) fun v27 =>
 some v27:=rfl
end Go.Proofs.Ytlaccfegaoaakaa

set_option maxRecDepth 100000
set_option maxHeartbeats 2000000
namespace Go.Proofs.Ytlaccfegaoaakaa
open Go.RowKit
noncomputable def tf (p:Prop):Bool:=@decide p (Classical.propDecidable p)
theorem tf_t {p:Prop} (h:p):tf p=true:=by unfold tf;exact @decide_eq_true p (Classical.propDecidable p) h
theorem tf_f {p:Prop} (h:¬p):tf p=false:=by unfold tf;exact @decide_eq_false p (Classical.propDecidable p) h
theorem tf_congr {p q:Prop} (h:p↔q):tf p=tf q:=by
 by_cases k:p
 ·rw [tf_t k,tf_t (h.1 k)]
 ·rw [tf_f k,tf_f (fun g=>k (h.2 g))]
theorem dec_tf {p:Prop} [Decidable p]:decide p=tf p:=by
 by_cases k:p
 ·rw [tf_t k,decide_eq_true k]
 ·rw [tf_f k,decide_eq_false k]
theorem Is.tf {o:Option Bool} {P:Prop} (h:Is o P):o=Option.some (Go.Proofs.Ytlaccfegaoaakaa.tf P):=by
 rcases h with ⟨h,e⟩ | ⟨h,e⟩
 ·rw [e,tf_t h]
 ·rw [e,tf_f h]
def VC (c:Cf):Prop:=1≤c.1∧c.1≤c.2.1∧c.2.1≤c.2.2.1∧c.2.2.1≤10000000∧1≤c.2.2.2∧c.2.2.2≤100
theorem vc_j (c:Cf):registrar_Valid c=some (tf (VC c)):=by
 obtain ⟨a,b,d,e⟩:=c
 unfold registrar_Valid VC
 by_cases h1:1≤a
 ·by_cases h2:a≤b
  ·by_cases h3:b≤d
   ·by_cases h4:d≤10000000
    ·by_cases h5:1≤e
     ·simp (disch:=omega) only [↓SDl,SDr,if_pos]
      congr 1
      rw [dec_tf];exact tf_congr ⟨fun h=>⟨h1,h2,h3,h4,h5,h⟩,fun h=>h.2.2.2.2.2⟩
     ·simp (disch:=omega) only [↓SDl,SDr,if_pos,if_neg]
      rw [tf_f];omega
    ·simp (disch:=omega) only [↓SDl,SDr,if_pos,if_neg]
     rw [tf_f];omega
   ·simp (disch:=omega) only [↓SDl,SDr,if_pos,if_neg]
    rw [tf_f];omega
  ·simp (disch:=omega) only [↓SDl,SDr,if_pos,if_neg]
   rw [tf_f];omega
 ·simp (disch:=omega) only [↓SDl,SDr,if_neg]
  rw [tf_f];omega
theorem vcR_j (c:Cf):dialtoneref22_Valid c=some (tf (VC c)):=by
 obtain ⟨a,b,d,e⟩:=c
 obtain ⟨v,h1,h2⟩:=valid_same a b d e
 rw [h2,←h1];exact vc_j _
theorem fm_j (r:Rg9):registrar_Formed r=some (tf (FMr r)):=(formedP_j r.1 r.2.1 r.2.2.1 r.2.2.2.1 r.2.2.2.2.1 r.2.2.2.2.2.1 r.2.2.2.2.2.2.1 r.2.2.2.2.2.2.2.1 r.2.2.2.2.2.2.2.2).tf
def Tch (r:Rg9) (b:Bnd):Prop:=r.2.2.2.1=true∨∃i,i<(rCs r).length∧(((rCs r).getD i c0).1=b.2.1∨(r.2.2.2.2.2.2.2.1≠0∧b.2.2.2.2.2.2.2.2.1=r.2.2.2.2.2.2.2.1∧b.2.2.2.2.2.2.2.1=r.2.2.2.2.2.2.1))
theorem touch_j (r:Rg9) (b:Bnd) (hl:(rCs r).length≤1000):registrar_touches (r,b)=some (tf (Tch r b)):=by
 rw [to_eq]
 have fin:∀(body:Int→Option (Int ⊕ (Unit ⊕ (Int ⊕ Bool)))) (p:Nat→Prop),(∀i:Nat,i<(rCs r).length→¬p i→body (i:Int)=some (.inl ((i+1:Nat):Int)))→(∀i:Nat,i<(rCs r).length→p i→body (i:Int)=some (.inr (.inr (.inl (i:Int)))))→body ((rCs r).length:Int)=some (.inr (.inl ())) →
  (joinO (joinO (loopO body (0:Int)) fun _=>(some (Sum.inl (-1:Int)):Option (Int ⊕ Bool))) fun v=>some (decide (v≥0)))=some (tf (∃i,i<(rCs r).length∧p i)):=fun body p h1 h2 h3=>by
  rcases loop_first (rCs r).length p (fun i=>(.inr (.inl (i:Int)):Unit ⊕ (Int ⊕ Bool))) (.inl ()) h1 h2 h3 with ⟨i,k1,k2,_,e⟩ | ⟨k,e⟩
  ·rw [e,joinO_inr,joinO_inl,decide_eq_true (show ((i:Int)≥0) by omega),tf_t ⟨i,k1,k2⟩]
  ·rw [e,joinO_inl,joinO_inl,decide_eq_false (by omega),tf_f (fun ⟨i,k1,k2⟩=>k i k1 k2)]
 cases hs:r.2.2.2.1 with
 | true =>
   rw [cond_true,tf_t (show Tch r b from .inl hs)]
 | false =>
   rw [cond_false]
   have hT:Tch r b↔∃i,i<(rCs r).length∧(((rCs r).getD i c0).1=b.2.1∨(r.2.2.2.2.2.2.2.1≠0∧b.2.2.2.2.2.2.2.2.1=r.2.2.2.2.2.2.2.1∧b.2.2.2.2.2.2.2.1=r.2.2.2.2.2.2.1)):=by
    unfold Tch;rw [hs];simp
   rw [tf_congr hT]
   have hn:∀i:Nat,((i:Int)+1)=((i+1:Nat):Int):=fun i=>rfl
   by_cases hf:r.2.2.2.2.2.2.2.1≠0
   ·rw [cond_ite,if_pos hf]
    by_cases hg:b.2.2.2.2.2.2.2.2.1=r.2.2.2.2.2.2.2.1
    ·rw [cond_ite,if_pos hg]
     refine fin _ _ (fun i hi hp => ?_) (fun i hi hp => ?_) ?_
     ·obtain ⟨x,hx,hxb⟩:=get_at c0 hi
      rw [hx] at hp
      have p1:¬x.1=b.2.1:=fun h=>hp (.inl h)
      have p2:¬b.2.2.2.2.2.2.2.1=r.2.2.2.2.2.2.1:=fun h=>hp (.inr ⟨hf,hg,h⟩)
      unfold toA
      simp (disch:=(first | omega | (simp only [LNl];omega))) only [↓SDl,SDr,if_pos,if_neg,↓hxb,p1,p2,wrap_i64',hn,not_false_eq_true]
     ·obtain ⟨x,hx,hxb⟩:=get_at c0 hi
      rw [hx] at hp
      unfold toA
      by_cases p1:x.1=b.2.1
      ·simp (disch:=(first | omega | (simp only [LNl];omega))) only [↓SDl,SDr,if_pos,if_neg,↓hxb,p1]
      ·have p2:b.2.2.2.2.2.2.2.1=r.2.2.2.2.2.2.1:=(hp.resolve_left p1).2.2
       simp (disch:=(first | omega | (simp only [LNl];omega))) only [↓SDl,SDr,if_pos,if_neg,↓hxb,p1,p2]
     ·unfold toA
      simp (disch:=(first | omega | (simp only [LNl];omega))) only [↓SDl,SDr,if_neg]
    ·rw [cond_ite,if_neg hg]
     refine fin _ _ (fun i hi hp => ?_) (fun i hi hp => ?_) ?_
     ·obtain ⟨x,hx,hxb⟩:=get_at c0 hi
      rw [hx] at hp
      have p1:¬x.1=b.2.1:=fun h=>hp (.inl h)
      unfold toC
      simp (disch:=(first | omega | (simp only [LNl];omega))) only [↓SDl,SDr,if_pos,if_neg,↓hxb,p1,wrap_i64',hn,not_false_eq_true]
     ·obtain ⟨x,hx,hxb⟩:=get_at c0 hi
      rw [hx] at hp
      have p1:x.1=b.2.1:=hp.resolve_right (fun h=>hg h.2.1)
      unfold toC
      simp (disch:=(first | omega | (simp only [LNl];omega))) only [↓SDl,SDr,if_pos,if_neg,↓hxb,p1]
     ·unfold toC
      simp (disch:=(first | omega | (simp only [LNl];omega))) only [↓SDl,SDr,if_neg]
   ·rw [cond_ite,if_neg hf]
    refine fin _ _ (fun i hi hp => ?_) (fun i hi hp => ?_) ?_
    ·obtain ⟨x,hx,hxb⟩:=get_at c0 hi
     rw [hx] at hp
     have p1:¬x.1=b.2.1:=fun h=>hp (.inl h)
     unfold toD
     simp (disch:=(first | omega | (simp only [LNl];omega))) only [↓SDl,SDr,if_pos,if_neg,↓hxb,p1,wrap_i64',hn,not_false_eq_true]
    ·obtain ⟨x,hx,hxb⟩:=get_at c0 hi
     rw [hx] at hp
     have p1:x.1=b.2.1:=hp.resolve_right (fun h=>hf h.1)
     unfold toD
     simp (disch:=(first | omega | (simp only [LNl];omega))) only [↓SDl,SDr,if_pos,if_neg,↓hxb,p1]
    ·unfold toD
     simp (disch:=(first | omega | (simp only [LNl];omega))) only [↓SDl,SDr,if_neg]
def expy (c:Cf) (r:Rg9) (x:Ct):Int:=minA (if x.2.2 ≠ -1 then x.2.2 else if r.2.2.2.2.2.1 ≠ -1 then r.2.2.2.2.2.1 else c.2.1) c.2.2.1
theorem exp_j (c:Cf) (r:Rg9) (x:Ct):registrar_expiry (c,(r,x))=some (expy c r x):=by
 show (bif decide (x.2.2 ≠ -1) then some (minA x.2.2 c.2.2.1) else bif decide (r.2.2.2.2.2.1 ≠ -1) then some (minA r.2.2.2.2.2.1 c.2.2.1) else some (minA c.2.1 c.2.2.1))=_
 unfold expy
 by_cases h1:x.2.2 = -1
 ·by_cases h2:r.2.2.2.2.2.1 = -1
  ·simp [h1,h2]
  ·simp [h1,h2]
 ·simp [h1]
theorem exp_b {c:Cf} {r:Rg9} {x:Ct} (hv:VC c) (hr:NO r.2.2.2.2.2.1) (hx:NO x.2.2):0≤expy c r x∧expy c r x≤10000000:=by
 obtain ⟨v1,v2,v3,v4,_⟩:=hv
 unfold expy minA
 split<;>split<;>(try split)<;>omega
theorem filter_snoc {α:Type} (l:List α) (d:α) (p:α→Bool) {i:Nat} (h:i<l.length):(l.take (i+1)).filter p=if p (l.getD i d)=true then (l.take i).filter p++[l.getD i d] else (l.take i).filter p:=by
 rw [take_snoc l d h,List.filter_append]
 cases hp:p (l.getD i d) with
 | true=>rw [if_pos rfl];congr 1;simp only [List.filter,hp]
 | false=>rw [if_neg (by decide)];simp only [List.filter,hp,List.append_nil]
def KeepB (r:Rg9) (now:Int) (b:Bnd):Prop:=b.1≠r.1∨(now<b.2.2.2.1∧¬Tch r b)
def StaleB (r:Rg9) (now:Int) (b:Bnd):Prop:=(b.1=r.1∧now<b.2.2.2.1)∧Tch r b∧b.2.2.2.2.2.1=r.2.1∧r.2.2.1≤b.2.2.2.2.2.2.1
def mkB (c:Cf) (now num:Int) (r:Rg9) (x:Ct):Bnd:=(r.1,(x.1,(x.2.1,(now+1000*expy c r x,(num,(r.2.1,(r.2.2.1,(r.2.2.2.2.2.2.1,(r.2.2.2.2.2.2.2.1,r.2.2.2.2.2.2.2.2)))))))))
noncomputable def newB (c:Cf) (now num:Int) (r:Rg9) (l:List Ct):List Bnd:=(l.filter fun x=>decide (expy c r x≠0)).map (mkB c now num r)
noncomputable def keptB (r:Rg9) (now:Int) (l:List Bnd):List Bnd:=l.filter fun b=>tf (KeepB r now b)
noncomputable def OutB (c:Cf) (l:List Bnd) (now num:Int) (r:Rg9):List Bnd:=keptB r now l++newB c now num r (rCs r)
noncomputable def UPD (c:Cf) (l:List Bnd) (now num:Int) (r:Rg9):List Bnd×Int :=
 bif !tf (VC c∧FMr r∧0≤now∧now≤1099511627776∧0≤num) then ([],2)
 else bif tf (∃i,i<l.length∧StaleB r now (l.getD i dB)) then ([],13)
 else bif tf (∃i,i<(rCs r).length∧0<expy c r ((rCs r).getD i c0)∧expy c r ((rCs r).getD i c0)<c.1) then ([],16)
 else bif tf (c.2.2.2<(((OutB c l now num r).filter fun b=>decide (b.1=r.1)).length:Int)) then ([],10)
 else (OutB c l now num r,0)
end Go.Proofs.Ytlaccfegaoaakaa

set_option maxRecDepth 100000
set_option maxHeartbeats 2000000
namespace Go.Proofs.Ytlaccfegaoaakaa
open Go.RowKit
theorem snoc_ex {α:Type} (l:List α) (d:α) (P:α→Prop) {i:Nat}:(∃j,j<i+1∧P (l.getD j d))↔(∃j,j<i∧P (l.getD j d))∨P (l.getD i d):=by
 constructor
 ·rintro ⟨j,h1,h2⟩
  by_cases e:j=i
  ·subst e;exact .inr h2
  ·exact .inl ⟨j,by omega,h2⟩
 ·rintro (⟨j,h1,h2⟩ | h)
  ·exact ⟨j,by omega,h2⟩
  ·exact ⟨i,by omega,h⟩
theorem tf_or_t {p q:Prop} (h:q):tf (p∨q)=true:=tf_t (.inr h)
theorem tf_or_f {p q:Prop} (h:¬q):tf (p∨q)=tf p:=tf_congr ⟨fun k=>k.resolve_right h,.inl⟩
section
variable (l:List Bnd) (now:Int) (r:Rg9) (hl:l.length≤100000) (hr:(rCs r).length≤1000)
include hl hr
theorem upA_j {δ:Type}:loopO (upA (δ:=δ) l now r) (0,(false,[]))=some (.inl (tf (∃j,j<l.length∧StaleB r now (l.getD j dB)),keptB r now l)):=by
 have fin:loopO (upA (δ:=δ) l now r) (0,(tf (∃j,j<0∧StaleB r now (l.getD j dB)),keptB r now (l.take 0)))=some (.inl (tf (∃j,j<l.length∧StaleB r now (l.getD j dB)),keptB r now l)):=by
  refine loopO_from (fun i=>((i:Int),(tf (∃j,j<i∧StaleB r now (l.getD j dB)),keptB r now (l.take i)))) l.length rfl (fun i hi => ?_) ?_
  ·obtain ⟨x,hx,hxb⟩:=get_at dB hi
   have hn:((i:Int)+1)=((i+1:Nat):Int):=rfl
   have e1:keptB r now (l.take (i+1))=if tf (KeepB r now x)=true then keptB r now (l.take i)++[x] else keptB r now (l.take i):=by
    unfold keptB;rw [filter_snoc l dB _ hi,hx]
   have e2:tf (∃j,j<i+1∧StaleB r now (l.getD j dB))=tf ((∃j,j<i∧StaleB r now (l.getD j dB))∨StaleB r now x):=by rw [←hx];exact tf_congr (snoc_ex l dB (StaleB r now))
   have lK:(keptB r now (l.take i)).length≤i:=by
    unfold keptB
    exact Nat.le_trans (List.length_filter_le _ _) (by rw [List.length_take];omega)
   rw [e1,e2]
   generalize keptB r now (l.take i)=K at lK ⊢
   generalize (∃j,j<i∧StaleB r now (l.getD j dB))=Q
   unfold upA
   by_cases a1:x.1=r.1
   ·by_cases a2:now<x.2.2.2.1
    ·have ht:=touch_j r x hr
     by_cases a3:Tch r x
     ·have k1:¬KeepB r now x:=fun h=>h.elim (fun h=>h a1) (fun h=>h.2 a3)
      rw [tf_f k1]
      rw [tf_t a3] at ht
      by_cases a4:x.2.2.2.2.2.1=r.2.1
      ·by_cases a5:x.2.2.2.2.2.2.1≥r.2.2.1
       ·rw [tf_or_t (q:=StaleB r now x) ⟨⟨a1,a2⟩,a3,a4,a5⟩]
        simp (disch:=(first | omega | (simp only [LNl];omega))) only [↓SDl,SDr,if_pos,if_neg,↓hxb,a1,a4,ht,ne_eq,not_true_eq_false,decide_false,wrap_i64',hn,Bool.false_eq_true]
       ·rw [tf_or_f (q:=StaleB r now x) (fun h=>a5 h.2.2.2)]
        simp (disch:=(first | omega | (simp only [LNl];omega))) only [↓SDl,SDr,if_pos,if_neg,↓hxb,a1,a4,ht,ne_eq,not_true_eq_false,decide_false,wrap_i64',hn,Bool.false_eq_true]
      ·rw [tf_or_f (q:=StaleB r now x) (fun h=>a4 h.2.2.1)]
       simp (disch:=(first | omega | (simp only [LNl];omega))) only [↓SDl,SDr,if_pos,if_neg,↓hxb,a1,a4,ht,ne_eq,not_true_eq_false,decide_false,wrap_i64',hn,Bool.false_eq_true]
     ·have k1:KeepB r now x := .inr ⟨a2,a3⟩
      rw [tf_t k1,tf_or_f (q:=StaleB r now x) (fun h=>a3 h.2.1)]
      rw [tf_f a3] at ht
      simp (disch:=(first | omega | (simp only [LNl];omega))) only [↓SDl,SDr,if_pos,if_neg,↓hxb,a1,ht,ne_eq,not_true_eq_false,decide_false,wrap_i64',hn]
    ·have k1:¬KeepB r now x:=fun h=>h.elim (fun h=>h a1) (fun h=>a2 h.1)
     rw [tf_f k1,tf_or_f (q:=StaleB r now x) (fun h=>a2 h.1.2)]
     simp (disch:=(first | omega | (simp only [LNl];omega))) only [↓SDl,SDr,if_pos,if_neg,↓hxb,a1,ne_eq,not_true_eq_false,decide_false,wrap_i64',hn,Bool.false_eq_true]
   ·have k1:KeepB r now x := .inl a1
    rw [tf_t k1,tf_or_f (q:=StaleB r now x) (fun h=>a1 h.1.1)]
    simp (disch:=(first | omega | (simp only [LNl];omega))) only [↓SDl,SDr,if_pos,if_neg,↓hxb,a1,ne_eq,not_false_eq_true,decide_true,wrap_i64',hn]
  ·have lK:(keptB r now l).length≤l.length:=List.length_filter_le _ _
   simp only [List.take_length]
   unfold upA
   simp (disch:=(first | omega | (simp only [LNl];omega))) only [↓SDl,SDr,if_neg]
 rw [show tf (∃j,j<0∧StaleB r now (l.getD j dB))=false from tf_f (fun ⟨j,h,_⟩=>by omega)] at fin
 exact fin
end
def BadE (c:Cf) (r:Rg9) (x:Ct):Prop:=0<expy c r x∧expy c r x<c.1
theorem fm_cs {r:Rg9} (h:FMr r):(rCs r).length≤20∧r.2.2.2.2.2.2.2.2.length≤10∧NO r.2.2.2.2.2.1∧∀i,i<(rCs r).length→COK (rCs r) i:=⟨h.2.1.2.1,h.2.1.2.2,h.2.1.1,h.2.2.2.2.2.2.1⟩
section
variable (c:Cf) (now num:Int) (r:Rg9) (hv:VC c) (hf:FMr r) (hn0:0≤now∧now≤1099511627776)
include hv hf hn0
theorem upB_j (K:List Bnd) (hK:K.length≤100000) :
 ((∃i,i<(rCs r).length∧BadE c r ((rCs r).getD i c0))∧loopO (upB c now num r) (0,K)=some (.inr ([],16)))∨((¬ ∃i,i<(rCs r).length∧BadE c r ((rCs r).getD i c0))∧loopO (upB c now num r) (0,K)=some (.inl (K++newB c now num r (rCs r)))):=by
 have hc:=fm_cs hf
 refine loopO_search (body:=upB c now num r) (fun i=>((i:Int),K++newB c now num r ((rCs r).take i))) (rCs r).length (fun i=>BadE c r ((rCs r).getD i c0)) (by simp [newB]) (fun i hi hb => ?_) (fun i hi hb => ?_) ?_
 ·obtain ⟨x,hx,hxb⟩:=get_at c0 hi
  rw [hx] at hb
  have hw:NO x.2.2:=by have:=(hc.2.2.2 i hi).1;rw [hx] at this;exact this.2.2
  have hb2:=exp_b hv hc.2.2.1 hw
  have hej:=exp_j c r x
  have hn:((i:Int)+1)=((i+1:Nat):Int):=rfl
  have e1:newB c now num r ((rCs r).take (i+1))=if decide (expy c r x≠0)=true then newB c now num r ((rCs r).take i)++[mkB c now num r x] else newB c now num r ((rCs r).take i):=by
   unfold newB;rw [filter_snoc (rCs r) c0 _ hi,hx]
   split<;>simp
  have lN:(newB c now num r ((rCs r).take i)).length≤i:=by
   unfold newB;rw [List.length_map]
   exact Nat.le_trans (List.length_filter_le _ _) (by rw [List.length_take];omega)
  rw [e1]
  generalize newB c now num r ((rCs r).take i)=N at lN ⊢
  unfold BadE at hb
  have hm:mkB c now num r x=(r.1,(x.1,(x.2.1,(now+1000*expy c r x,(num,(r.2.1,(r.2.2.1,(r.2.2.2.2.2.2.1,(r.2.2.2.2.2.2.2.1,r.2.2.2.2.2.2.2.2))))))))):=rfl
  rw [hm]
  generalize expy c r x=e at hb hb2 hej ⊢
  unfold upB
  by_cases a1:e=0
  ·simp (disch:=(first | omega | (simp only [LNl];omega))) only [↓SDl,SDr,if_pos,if_neg,↓hxb,hej,a1,ne_eq,not_true_eq_false,decide_false,wrap_i64',hn,Bool.false_eq_true]
  ·simp (disch:=(first | omega | (simp only [LNl];omega))) only [↓SDl,SDr,if_pos,if_neg,↓hxb,hej,a1,ne_eq,not_false_eq_true,decide_true,wrap_i64',hn,List.append_assoc]
 ·obtain ⟨x,hx,hxb⟩:=get_at c0 hi
  rw [hx] at hb
  have hej:=exp_j c r x
  unfold BadE at hb
  generalize expy c r x=e at hb hej
  unfold upB
  simp (disch:=(first | omega | (simp only [LNl];omega))) only [↓SDl,SDr,if_pos,if_neg,↓hxb,hej]
 ·have lN:(newB c now num r (rCs r)).length≤20:=by
   unfold newB;rw [List.length_map]
   exact Nat.le_trans (List.length_filter_le _ _) hc.1
  simp only [List.take_length]
  unfold upB
  simp (disch:=(first | omega | (simp only [LNl];omega))) only [↓SDl,SDr,if_neg]
end
theorem upC_j {δ:Type} (v:List Bnd) (r:Rg9) (hv:v.length≤1000000):loopO (upC (δ:=δ) v r) (0,0)=some (.inl ((v.filter fun b=>decide (b.1=r.1)).length:Int)):=by
 have fin:loopO (upC (δ:=δ) v r) (0,(((v.take 0).filter fun b=>decide (b.1=r.1)).length:Int))=some (.inl ((v.filter fun b=>decide (b.1=r.1)).length:Int)):=by
  refine loopO_from (fun i=>((i:Int),(((v.take i).filter fun b=>decide (b.1=r.1)).length:Int))) v.length rfl (fun i hi => ?_) ?_
  ·obtain ⟨x,hx,hxb⟩:=get_at dB hi
   have hn:((i:Int)+1)=((i+1:Nat):Int):=rfl
   have e1:=filter_snoc v dB (fun b=>decide (b.1=r.1)) hi
   have lN:((v.take i).filter fun b=>decide (b.1=r.1)).length≤i:=Nat.le_trans (List.length_filter_le _ _) (by rw [List.length_take];omega)
   rw [e1,hx]
   generalize (v.take i).filter (fun b=>decide (b.1=r.1))=N at lN ⊢
   unfold upC
   by_cases a1:x.1=r.1
   ·have hm:((N.length:Nat):Int)+1=((N.length+1:Nat):Int):=rfl
    simp (disch:=(first | omega | (simp only [LNl];omega))) only [↓SDl,SDr,if_pos,if_neg,↓hxb,a1,decide_true,wrap_i64',hn,List.length_append,List.length_cons,List.length_nil,hm]
   ·simp (disch:=(first | omega | (simp only [LNl];omega))) only [↓SDl,SDr,if_pos,if_neg,↓hxb,a1,decide_false,wrap_i64',hn,Bool.false_eq_true]
  ·simp only [List.take_length]
   unfold upC
   simp (disch:=(first | omega | (simp only [LNl];omega))) only [↓SDl,SDr,if_neg]
 exact fin
theorem co_j (l:List Bnd) (hl:l.length≤1000000) (hp:∀b∈l,b.2.2.2.2.2.2.2.2.2.length≤1000000):registrar_copyOf l=some l:=by
 have c1:cloneG l=some l:=by unfold cloneG;rw [decide_eq_true hl];rfl
 have hL:∀ {δ:Type},loopO (coB (δ:=δ) l) ((0:Int),l)=some (.inl l):=fun {δ}=>by
  refine loopO_from (fun i=>((i:Int),l)) l.length rfl (fun i hi => ?_) ?_
  ·obtain ⟨x,hx,hxb⟩:=get_at dB hi
   have hok:=hp x (by rw [←hx,getD_get _ hi];exact List.getElem_mem _)
   have hcl:cloneG x.2.2.2.2.2.2.2.2.2=some x.2.2.2.2.2.2.2.2.2:=by unfold cloneG;rw [decide_eq_true hok];rfl
   have hs:List.set l i x=l:=by
    rw [←hx,getD_get _ hi];exact List.set_getElem_self hi
   have hn:((i:Int)+1)=((i+1:Nat):Int):=rfl
   unfold coB
   simp (disch:=(first | omega | (simp only [LNl];omega))) only [↓SDl,SDr,if_pos,if_neg,↓hxb,hcl,wrap_i64',hn,Int.toNat_natCast]
   rw [show (x.1,(x.2.1,(x.2.2.1,(x.2.2.2.1,(x.2.2.2.2.1,(x.2.2.2.2.2.1,(x.2.2.2.2.2.2.1,(x.2.2.2.2.2.2.2.1,(x.2.2.2.2.2.2.2.2.1,x.2.2.2.2.2.2.2.2.2)))))))))=x from rfl,hs]
  ·unfold coB
   simp (disch:=(first | omega | (simp only [LNl];omega))) only [↓SDl,SDr,if_neg]
 rw [co_eq]
 simp (disch:=(first | omega | (simp only [LNl];omega))) only [↓SDl,SDr,if_pos,if_neg,c1]
 refine joinO_eq (a:=l) hL ?_
 simp (disch:=(first | omega | (simp only [LNl];omega))) only [↓SDl,SDr,if_pos,if_neg]
end Go.Proofs.Ytlaccfegaoaakaa
