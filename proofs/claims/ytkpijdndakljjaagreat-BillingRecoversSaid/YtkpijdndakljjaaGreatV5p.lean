import Derived.Test.YtkpijdndakljjaaGreatZrp
import Derived.Test.YtkpijdndakljjaaGreatFp
import Derived.Test.YtkpijdndakljjaaGreatXBp
import Derived.Test.YtkpijdndakljjaaGreatXAp
import Derived.OrdersIn
import Derived.ControlIn
import Derived.RangeFuncLeaves
import Derived.RangeFuncCalls
import Derived.RangeFuncRecord
import Derived.RangeFuncKeeps
import Derived.Shelf.Abstract
import Derived.WalkKit
import Derived.OwnWalkIn
import Derived.TacticsInMore
import Derived.LoopNIn
import Derived.LoopIn
import Derived.Test.YtkpijdndakljjaaGreatProg
import Derived.RangeFuncIn
set_option linter.unusedSimpArgs false
set_option linter.unusedVariables false
set_option maxRecDepth 1000000
set_option maxHeartbeats 0
namespace Go.Proofs.YtkpijdndakljjaaGreat
open Go.RowKit
def agp:List (Nat×PL):=[(134480385,(.carry [.tmp 3 false [(.dat (.int .u32))]])),(18049651601311750,(.carry [.tmp 9 false [(.dat (.int .i64))],.tmp 3 false [(.dat (.int .u32))]])),(2422583229119624904966657,(.carry [.tmp 3 false [(.dat (.int .u32))]])),(43641379711748622625774587972117695039494,(.carry [.tmp 17 false [(.dat (.int .i64))],.tmp 3 false [(.dat (.int .u32))]]))]
noncomputable def lY:(List Int)->Option Int:=fun a1 =>
 aB (aA (fun (v2,v3) =>
 bif (decide (v2<(a1.length:Int))) then
 aB (bif (decide (((0:Int)<=v2)/\(v2<(a1.length:Int)))) then
 ah a1[v2.toNat]? fun x4 =>
 aA (fun (v7,v8) =>
 bif (decide (v7<(8:Int))) then
 ah (some (IntKind.wrap .u32 (Int.tdiv v8 (2:Int)))) fun x10 =>
 bif (decide ((IntKind.wrap .u32 (((BitVec.toNat ((BitVec.ofInt 32 v8) &&& (BitVec.ofInt 32 (1:Int)))):Nat):Int))=(1:Int))) then
 some (Sum.inl ((IntKind.wrap .i64 (v7+(1:Int))),(IntKind.wrap .u32 (((BitVec.toNat ((BitVec.ofInt 32 x10) ^^^ (BitVec.ofInt 32 (3988292384:Int)))):Nat):Int))))
 else
 some (Sum.inl ((IntKind.wrap .i64 (v7+(1:Int))),x10))
 else
 au (some (Sum.inl v8))) ((0:Int),(IntKind.wrap .u32 (((BitVec.toNat ((BitVec.ofInt 32 v3) ^^^ (BitVec.ofInt 32 (IntKind.wrap .u32 x4)))):Nat):Int)))
 else none) fun v14 =>
 some (Sum.inl ((IntKind.wrap .i64 (v2+(1:Int))),v14))
 else
 au (some (Sum.inl v3))) ((0:Int),(4294967295:Int))) fun v16 =>
 some (IntKind.wrap .u32 (((BitVec.toNat ((BitVec.ofInt 32 (4294967295:Int)) ^^^ (BitVec.ofInt 32 v16))):Nat):Int))
noncomputable def X7:List (Nat×CE):=[]
theorem KO:dD Tryz.prog X7:=trivial
theorem aki:aS Tryz.prog 91 ⟨[(.tmp 0 false [(.dat (.list (.int .u8)))])],[(.tmp 0 false [(.dat (.int .u32))])],lY⟩ :=kU agp dR KO Tryz.func91
def adN:List (Nat×PL):=[(134480385,(.carry [.tmp 3 false [(.dat (.int .u32))]])),(18049651601311750,(.carry [.tmp 4 false [(.dat (.int .i64))],.tmp 3 false [(.dat (.int .u32))]])),(4731607869374267392513,(.carry [.tmp 3 false [(.dat (.int .u32))]])),(166478651854509821417867418488014854,(.carry [.tmp 5 false [(.dat (.int .i64))],.tmp 3 false [(.dat (.int .u32))]]))]
noncomputable def jA:(List Int)->Option Int:=fun a1 =>
 aB (aA (fun (v2,v3) =>
 bif (decide (v2<(a1.length:Int))) then
 aB (bif (decide (((0:Int)<=v2)/\(v2<(a1.length:Int)))) then
 ah a1[v2.toNat]? fun x4 =>
 aA (fun (v7,v8) =>
 bif (decide (v7<(8:Int))) then
 bif (decide ((Int.tmod v8 (2:Int))=(1:Int))) then
 some (Sum.inl ((IntKind.wrap .i64 (v7+(1:Int))),(IntKind.wrap .u32 (((BitVec.toNat ((BitVec.ofInt 32 (IntKind.wrap .u32 (Int.tdiv v8 (2:Int)))) ^^^ (BitVec.ofInt 32 (3988292384:Int)))):Nat):Int))))
 else
 some (Sum.inl ((IntKind.wrap .i64 (v7+(1:Int))),(IntKind.wrap .u32 (Int.tdiv v8 (2:Int)))))
 else
 au (some (Sum.inl v8))) ((0:Int),(IntKind.wrap .u32 (((BitVec.toNat ((BitVec.ofInt 32 v3) ^^^ (BitVec.ofInt 32 (IntKind.wrap .u32 x4)))):Nat):Int)))
 else none) fun v15 =>
 some (Sum.inl ((IntKind.wrap .i64 (v2+(1:Int))),v15))
 else
 au (some (Sum.inl v3))) ((0:Int),(4294967295:Int))) fun v17 =>
 some (IntKind.wrap .u32 (((BitVec.toNat ((BitVec.ofInt 32 v17) ^^^ (BitVec.ofInt 32 (4294967295:Int)))):Nat):Int))
noncomputable def TU:List (Nat×CE):=(91,⟨[(.tmp 0 false [(.dat (.list (.int .u8)))])],[(.tmp 0 false [(.dat (.int .u32))])],lY⟩)::X7
theorem Ih:dD Tryz.prog TU:=⟨aki,KO⟩
theorem agq:aS Tryz.prog 113 ⟨[(.tmp 0 false [(.dat (.list (.int .u8)))])],[(.tmp 0 false [(.dat (.int .u32))])],jA⟩ :=kU adN dR Ih Tryz.func113
def adO:List (Nat×PL):=[(134480385,(.carry [.drop 0,.tmp 5 false [(.dat (.list (.int .u8)))]])),(18049651601311750,(.carry [.tmp 6 false [(.dat (.int .i64))],.tmp 0 false [(.dat (.int .i64))],.tmp 5 false [(.dat (.list (.int .u8)))]]))]
noncomputable def dQ:(Int×Int)->Option (List Int):=fun (a1,a2) =>
 aB (aA (fun (v3,(v4,v5)) =>
 bif (decide (v3<a2)) then
 ah (some (Int.tmod v4 (256:Int))) fun x6 =>
 bif (decide ((1=0)\/(v5.length≠0))) then
 bif (decide (((List.length (((IntKind.wrap .u8 x6)::([]:List Int))++v5))*1)<=140737488355328)) then
 ah (some (((IntKind.wrap .u8 x6)::([]:List Int))++v5)) fun x8 =>
 bif (decide (x8.length<=x8.length)) then
 some (Sum.inl ((IntKind.wrap .i64 (v3+(1:Int))),((IntKind.wrap .i64 (Int.tdiv v4 (256:Int))),(x8.take x8.length))))
 else none
 else none
 else
 some (Sum.inl ((IntKind.wrap .i64 (v3+(1:Int))),((IntKind.wrap .i64 (Int.tdiv v4 (256:Int))),((IntKind.wrap .u8 x6)::([]:List Int)))))
 else
 au (some (Sum.inl v5))) ((0:Int),(a1,([]:List Int)))) fun v13 =>
 some v13
noncomputable def TW:List (Nat×CE):=(113,⟨[(.tmp 0 false [(.dat (.list (.int .u8)))])],[(.tmp 0 false [(.dat (.int .u32))])],jA⟩)::TU
theorem Ii:dD Tryz.prog TW:=⟨agq,Ih⟩
theorem agr:aS Tryz.prog 112 ⟨[(.tmp 0 false [(.dat (.int .i64))]),(.tmp 1 false [(.dat (.int .i64))])],[(.tmp 0 false [(.dat (.list (.int .u8)))])],dQ⟩ :=kU adO TM Ii Tryz.func112
def ags:List (Nat×PL):=[(4731607904492334612511,(.carry [.tmp 0 false [(.own 10000005 5 (.int .u8))]])),(1240362622515238564662084097,(.carry [.tmp 0 false [(.own 10000004 5 (.int .u8))]])),(166478653090116965526926015110318086,(.carry [.tmp 10 false [(.dat (.int .i64))],.tmp 0 false [(.own 10000003 5 (.int .u8))]])),(22344386578255678367278332572200562860491265,(.carry [.tmp 0 false [(.own 10000002 5 (.int .u8))],.dead 10000003])),(786173211466051447306281901482090301346629135624380352518,(.carry [.tmp 7 false [(.dat (.int .i64))],.tmp 0 false [(.own 10000001 5 (.int .u8))],.dead 10000003])),(18049651735527445,(.carry [.tmp 0 false [(.own 10000006 5 (.int .u8))],.dead 22])),(4731607904558106542593,(.carry [.tmp 0 false [(.own 10000010 5 (.int .u8))],.dead 22])),(635065662736629904128633735174,(.carry [.tmp 10 false [(.dat (.int .i64))],.tmp 0 false [(.own 10000009 5 (.int .u8))],.dead 22])),(85237070383324728109003039679208227329,(.carry [.tmp 0 false [(.own 10000008 5 (.int .u8))],.dead 22,.dead 10000009])),(2999012800128859266877521744582980956552618278389766,(.carry [.tmp 7 false [(.dat (.int .i64))],.tmp 0 false [(.own 10000007 5 (.int .u8))],.dead 22,.dead 10000009]))]
noncomputable def mY:(Int×(Int×(List Int)))->Option ((List Int)×Int):=fun (a1,(a2,a3)) =>
 bif (decide (a1<(0:Int))) then
 some (([]:List Int),(3:Int))
 else
 bif (decide (a1 > (1048575:Int))) then
 some (([]:List Int),(3:Int))
 else
 bif (decide ((a3.length:Int) > (4096:Int))) then
 some (([]:List Int),(4:Int))
 else
 aB (aB (aA (fun (v9,v10) =>
 bif (decide (v9<(5:Int))) then
 aB (bif (decide (((0:Int)<=v9)/\(v9<(5:Int)))) then
 ah (((167:Int),(1:Int))::(((IntKind.wrap .u32 a2),(1:Int))::(((IntKind.wrap .u32 a1),(4:Int))::(((IntKind.wrap .u32 (a3.length:Int)),(2:Int))::(((IntKind.wrap .u32 (IntKind.wrap .i64 ((65535:Int)-(a3.length:Int)))),(2:Int))::([]:List (Int×Int)))))))[v9.toNat]? fun x11 =>
 bif (decide (v10.length<=v10.length)) then
 aA (fun (v13,v14) =>
 bif (decide (v13>=(0:Int))) then
 ah (some (IntKind.wrap .i64 ((8:Int)*v13))) fun x15 =>
 bif (decide ((0:Int)<=x15)) then
 ah (some (Int.fdiv x11.1 ((2:Int) ^ (Min.min x15.toNat 32)))) fun x16 =>
 bif (decide (v14.length<=v14.length)) then
 bif (decide (((List.length ((v14.take v14.length)++((IntKind.wrap .u8 x16)::([]:List Int))))*1)<=140737488355328)) then
 ah (some ((v14.take v14.length)++((IntKind.wrap .u8 x16)::([]:List Int)))) fun x18 =>
 bif (decide (x18.length<=x18.length)) then
 some (Sum.inl ((IntKind.wrap .i64 (v13-(1:Int))),(x18.take x18.length)))
 else none
 else none
 else none
 else none
 else
 au (bif (decide (v14.length<=v14.length)) then
 some (Sum.inl (v14.take v14.length))
 else none)) ((IntKind.wrap .i64 (x11.2-(1:Int))),(v10.take v10.length))
 else none
 else none) fun v20 =>
 bif (decide (v20.length<=v20.length)) then
 some (Sum.inl ((IntKind.wrap .i64 (v9+(1:Int))),(v20.take v20.length)))
 else none
 else
 au (bif (decide (v10.length<=v10.length)) then
 some (Sum.inl (v10.take v10.length))
 else none)) ((0:Int),([]:List Int))) fun v22 =>
 bif (decide (v22.length<=v22.length)) then
 some (Sum.inl (v22.take v22.length))
 else none) fun v23 =>
 bif (decide (v23.length<=v23.length)) then
 bif (decide (((List.length ((v23.take v23.length)++a3))*1)<=140737488355328)) then
 ah (some ((v23.take v23.length)++a3)) fun x24 =>
 bif (decide (x24.length<=x24.length)) then
 ah (lY (x24.take x24.length)) fun x25 =>
 aB (aB (bif (decide (x24.length<=x24.length)) then
 aA (fun (v26,v27) =>
 bif (decide (v26<(1:Int))) then
 aB (bif (decide (((0:Int)<=v26)/\(v26<(1:Int)))) then
 ah ((x25,(4:Int))::([]:List (Int×Int)))[v26.toNat]? fun x28 =>
 bif (decide (v27.length<=v27.length)) then
 aA (fun (v30,v31) =>
 bif (decide (v30>=(0:Int))) then
 ah (some (IntKind.wrap .i64 ((8:Int)*v30))) fun x32 =>
 bif (decide ((0:Int)<=x32)) then
 ah (some (Int.fdiv x28.1 ((2:Int) ^ (Min.min x32.toNat 32)))) fun x33 =>
 bif (decide (v31.length<=v31.length)) then
 bif (decide (((List.length ((v31.take v31.length)++((IntKind.wrap .u8 x33)::([]:List Int))))*1)<=140737488355328)) then
 ah (some ((v31.take v31.length)++((IntKind.wrap .u8 x33)::([]:List Int)))) fun x35 =>
 bif (decide (x35.length<=x35.length)) then
 some (Sum.inl ((IntKind.wrap .i64 (v30-(1:Int))),(x35.take x35.length)))
 else none
 else none
 else none
 else none
 else
 au (bif (decide (v31.length<=v31.length)) then
 some (Sum.inl (v31.take v31.length))
 else none)) ((IntKind.wrap .i64 (x28.2-(1:Int))),(v27.take v27.length))
 else none
 else none) fun v37 =>
 bif (decide (v37.length<=v37.length)) then
 some (Sum.inl ((IntKind.wrap .i64 (v26+(1:Int))),(v37.take v37.length)))
 else none
 else
 au (bif (decide (v27.length<=v27.length)) then
 some (Sum.inl (v27.take v27.length))
 else none)) ((0:Int),(x24.take x24.length))
 else none) fun v39 =>
 bif (decide (v39.length<=v39.length)) then
 some (Sum.inl (v39.take v39.length))
 else none) fun v40 =>
 bif (decide (v40.length<=v40.length)) then
 some ((v40.take v40.length),(0:Int))
 else none
 else none
 else none
 else none
noncomputable def X8:List (Nat×CE):=(112,⟨[(.tmp 0 false [(.dat (.int .i64))]),(.tmp 1 false [(.dat (.int .i64))])],[(.tmp 0 false [(.dat (.list (.int .u8)))])],dQ⟩)::TW
theorem KP:dD Tryz.prog X8:=⟨agr,Ii⟩
theorem akj:aS Tryz.prog 86 ⟨[(.tmp 0 false [(.dat (.int .i64))]),(.tmp 1 true [(.dat (.int .u8)),(.dat (.list (.int .u8)))])],[(.tmp 0 false [(.dat (.list (.int .u8)))]),(.tmp 1 false [(.dat (.int .u8))])],mY⟩ :=kU ags dR KP Tryz.func86
def adP:List (Nat×PL):=[]
noncomputable def eP:(Int×(Int×(List Int)))->Option ((List Int)×Int):=fun (a1,(a2,a3)) =>
 bif (decide (a1<(0:Int))) then
 some (([]:List Int),(3:Int))
 else
 bif (decide (a1>=(1048576:Int))) then
 some (([]:List Int),(3:Int))
 else
 bif (decide ((a3.length:Int) > (4096:Int))) then
 some (([]:List Int),(4:Int))
 else
 ah (dQ (a1,(4:Int))) fun x4 =>
 bif (decide ((2=0)\/(x4.length≠0))) then
 bif (decide (((List.length (((167:Int)::(a2::([]:List Int)))++x4))*1)<=140737488355328)) then
 ah (some (((167:Int)::(a2::([]:List Int)))++x4)) fun x5 =>
 ah (dQ ((a3.length:Int),(2:Int))) fun x6 =>
 bif (decide (x5.length<=x5.length)) then
 bif (decide (((List.length ((x5.take x5.length)++x6))*1)<=140737488355328)) then
 ah (some ((x5.take x5.length)++x6)) fun x7 =>
 ah (dQ ((IntKind.wrap .i64 ((65535:Int)-(a3.length:Int))),(2:Int))) fun x9 =>
 bif (decide (x7.length<=x7.length)) then
 bif (decide (((List.length ((x7.take x7.length)++x9))*1)<=140737488355328)) then
 ah (some ((x7.take x7.length)++x9)) fun x10 =>
 bif (decide (x10.length<=x10.length)) then
 bif (decide (((List.length ((x10.take x10.length)++a3))*1)<=140737488355328)) then
 ah (some ((x10.take x10.length)++a3)) fun x11 =>
 bif (decide (x11.length<=x11.length)) then
 ah (jA (x11.take x11.length)) fun x12 =>
 ah (dQ ((IntKind.wrap .i64 x12),(4:Int))) fun x14 =>
 bif (decide (x11.length<=x11.length)) then
 bif (decide (((List.length ((x11.take x11.length)++x14))*1)<=140737488355328)) then
 ah (some ((x11.take x11.length)++x14)) fun x15 =>
 bif (decide (x15.length<=x15.length)) then
 some ((x15.take x15.length),(0:Int))
 else none
 else none
 else none
 else none
 else none
 else none
 else none
 else none
 else none
 else none
 else none
 else none
noncomputable def TY:List (Nat×CE):=(86,⟨[(.tmp 0 false [(.dat (.int .i64))]),(.tmp 1 true [(.dat (.int .u8)),(.dat (.list (.int .u8)))])],[(.tmp 0 false [(.dat (.list (.int .u8)))]),(.tmp 1 false [(.dat (.int .u8))])],mY⟩)::X8
theorem Ij:dD Tryz.prog TY:=⟨akj,KP⟩
theorem X9:aS Tryz.prog 107 ⟨[(.tmp 0 false [(.dat (.int .i64))]),(.tmp 1 true [(.dat (.int .u8)),(.dat (.list (.int .u8)))])],[(.tmp 0 false [(.dat (.list (.int .u8)))]),(.tmp 1 false [(.dat (.int .u8))])],eP⟩ :=kU adP dR Ij Tryz.func107
def agt:List (Nat×PL):=[]
noncomputable def jV:((List Int)×(List Int))->Option (List Int):=fun (a1,a2) =>
 ah (some (IntKind.wrap .i64 ((a1.length:Int)+(a2.length:Int)))) fun x3 =>
 bif (decide (((0:Int)<=x3)/\((x3<=x3)/\(((x3*(1:Int))<=(140737488355328:Int))/\(x3<=(9223372036854775807:Int)))))) then
 bif (decide (x3.toNat<=(List.length (List.replicate x3.toNat (0:Int))))) then
 bif (decide (((0:Int)<=(a1.length:Int))/\((a1.length:Int)<=((x3.toNat:Nat):Int)))) then
 bif (decide (((Int.toNat (a1.length:Int))+(x3.toNat-(Int.toNat (a1.length:Int))))<=(List.length (zM (List.replicate x3.toNat (0:Int)) 0 (List.take x3.toNat a1))))) then
 bif (decide (x3.toNat<=(List.length (zM (zM (List.replicate x3.toNat (0:Int)) 0 (List.take x3.toNat a1)) (Int.toNat (a1.length:Int)) (List.take (x3.toNat-(Int.toNat (a1.length:Int))) a2))))) then
 some (List.take x3.toNat (zM (zM (List.replicate x3.toNat (0:Int)) 0 (List.take x3.toNat a1)) (Int.toNat (a1.length:Int)) (List.take (x3.toNat-(Int.toNat (a1.length:Int))) a2)))
 else none
 else none
 else none
 else none
 else none
noncomputable def Ya:List (Nat×CE):=(107,⟨[(.tmp 0 false [(.dat (.int .i64))]),(.tmp 1 true [(.dat (.int .u8)),(.dat (.list (.int .u8)))])],[(.tmp 0 false [(.dat (.list (.int .u8)))]),(.tmp 1 false [(.dat (.int .u8))])],eP⟩)::TY
theorem KQ:dD Tryz.prog Ya:=⟨X9,Ij⟩
theorem akk:aS Tryz.prog 40 ⟨[(.tmp 0 false [(.dat (.list (.int .u8)))]),(.tmp 1 false [(.dat (.list (.int .u8)))])],[(.tmp 0 false [(.dat (.list (.int .u8)))])],jV⟩ :=kU agt dR KQ Tryz.func40
def agu:List (Nat×PL):=[]
noncomputable def je:(List Int)->Option (List Int):=fun a1 =>
 bif (decide ((a1.length*1)<=140737488355328)) then
 bif (decide (a1.length<=a1.length)) then
 some (a1.take a1.length)
 else none
 else none
noncomputable def Yb:List (Nat×CE):=(40,⟨[(.tmp 0 false [(.dat (.list (.int .u8)))]),(.tmp 1 false [(.dat (.list (.int .u8)))])],[(.tmp 0 false [(.dat (.list (.int .u8)))])],jV⟩)::Ya
theorem KR:dD Tryz.prog Yb:=⟨akk,KQ⟩
theorem akl:aS Tryz.prog 74 ⟨[(.tmp 0 false [(.dat (.list (.int .u8)))])],[(.tmp 0 false [(.dat (.list (.int .u8)))])],je⟩ :=kU agu dR KR Tryz.func74
def agv:List (Nat×PL):=[]
noncomputable def iH:((List Int)×(Int×Int))->Option Bool:=fun (a1,(a2,a3)) =>
 bif (decide (a2>=(0:Int))) then
 bif (decide (a2<=(a1.length:Int))) then
 bif (decide (a3>=(0:Int))) then
 some (decide (a3<=(1048576:Int)))
 else
 some false
 else
 some false
 else
 some false
noncomputable def Yc:List (Nat×CE):=(74,⟨[(.tmp 0 false [(.dat (.list (.int .u8)))])],[(.tmp 0 false [(.dat (.list (.int .u8)))])],je⟩)::Yb
theorem KT:dD Tryz.prog Yc:=⟨akl,KR⟩
theorem adQ:aS Tryz.prog 58 ⟨[(.tmp 0 true [(.dat (.list (.int .u8))),(.dat (.int .i64)),(.dat (.int .i64))])],[(.tmp 0 false [(.dat .bool)])],iH⟩ :=kU agv dR KT Tryz.func58
def adR:List (Nat×PL):=[]
noncomputable def gq:((List Int)×(Int×Int))->Option Bool:=fun (a1,(a2,a3)) =>
 bif (decide (a2>=(0:Int))) then
 bif (decide (a2<=(a1.length:Int))) then
 bif (decide (a3>=(0:Int))) then
 some (decide (a3<=(1048576:Int)))
 else
 some false
 else
 some false
 else
 some false
noncomputable def Ua:List (Nat×CE):=(58,⟨[(.tmp 0 true [(.dat (.list (.int .u8))),(.dat (.int .i64)),(.dat (.int .i64))])],[(.tmp 0 false [(.dat .bool)])],iH⟩)::Yc
theorem Ik:dD Tryz.prog Ua:=⟨adQ,KT⟩
theorem Yd:aS Tryz.prog 110 ⟨[(.tmp 0 true [(.dat (.list (.int .u8))),(.dat (.int .i64)),(.dat (.int .i64))])],[(.tmp 0 false [(.dat .bool)])],gq⟩ :=kU adR dR Ik Tryz.func110
def agw:List (Nat×PL):=[]
noncomputable def fE:(((List Int)×(Int×Int))×((List Int)×(Int×Int)))->Option Bool:=fun ((a1,(a2,a3)),(a4,(a5,a6))) =>
 bif (decide ((jS a1)=(jS a4))) then
 bif (decide (a2=a5)) then
 some (decide (a3=a6))
 else
 some false
 else
 some false
noncomputable def Ye:List (Nat×CE):=(110,⟨[(.tmp 0 true [(.dat (.list (.int .u8))),(.dat (.int .i64)),(.dat (.int .i64))])],[(.tmp 0 false [(.dat .bool)])],gq⟩)::Ua
theorem KU:dD Tryz.prog Ye:=⟨Yd,Ik⟩
theorem adS:aS Tryz.prog 25 ⟨[(.tmp 0 true [(.dat (.list (.int .u8))),(.dat (.int .i64)),(.dat (.int .i64))]),(.tmp 1 true [(.dat (.list (.int .u8))),(.dat (.int .i64)),(.dat (.int .i64))])],[(.tmp 0 false [(.dat .bool)])],fE⟩ :=kU agw dR KU Tryz.func25
def agx:List (Nat×PL):=[]
noncomputable def kZ:(((List Int)×(Int×Int))×(Int×(List Int)))->Option (((List Int)×(Int×Int))×Int):=fun ((a1,(a2,a3)),(a4,a5)) =>
 ah (iH (a1,(a2,a3))) fun x6 =>
 bif (!x6) then
 some ((([]:List Int),((0:Int),(0:Int))),(2:Int))
 else
 bif (decide (a3>=(1048576:Int))) then
 some ((([]:List Int),((0:Int),(0:Int))),(10:Int))
 else
 ah (mY (a3,(a4,a5))) fun (x8,x9) =>
 bif (decide (x9≠(0:Int))) then
 some ((([]:List Int),((0:Int),(0:Int))),x9)
 else
 ah (jV (a1,x8)) fun x10 =>
 some ((x10,(a2,(IntKind.wrap .i64 (a3+(1:Int))))),(0:Int))
noncomputable def Yf:List (Nat×CE):=(25,⟨[(.tmp 0 true [(.dat (.list (.int .u8))),(.dat (.int .i64)),(.dat (.int .i64))]),(.tmp 1 true [(.dat (.list (.int .u8))),(.dat (.int .i64)),(.dat (.int .i64))])],[(.tmp 0 false [(.dat .bool)])],fE⟩)::Ye
theorem KW:dD Tryz.prog Yf:=⟨adS,KU⟩
theorem adT:aS Tryz.prog 61 ⟨[(.tmp 0 true [(.dat (.list (.int .u8))),(.dat (.int .i64)),(.dat (.int .i64))]),(.tmp 1 true [(.dat (.int .u8)),(.dat (.list (.int .u8)))])],[(.tmp 0 true [(.dat (.list (.int .u8))),(.dat (.int .i64)),(.dat (.int .i64))]),(.tmp 1 false [(.dat (.int .u8))])],kZ⟩ :=kU agx dR KW Tryz.func61
def agy:List (Nat×PL):=[]
noncomputable def kJ:((List Int)×(Int×Int))->Option ((List Int)×(Int×Int)):=fun (a1,(a2,a3)) =>
 ah (iH (a1,(a2,a3))) fun x4 =>
 bif (!x4) then
 some (([]:List Int),((0:Int),(0:Int)))
 else
 ah (jV (a1,([]:List Int))) fun x5 =>
 some (x5,((a1.length:Int),a3))
noncomputable def Yg:List (Nat×CE):=(61,⟨[(.tmp 0 true [(.dat (.list (.int .u8))),(.dat (.int .i64)),(.dat (.int .i64))]),(.tmp 1 true [(.dat (.int .u8)),(.dat (.list (.int .u8)))])],[(.tmp 0 true [(.dat (.list (.int .u8))),(.dat (.int .i64)),(.dat (.int .i64))]),(.tmp 1 false [(.dat (.int .u8))])],kZ⟩)::Yf
theorem KX:dD Tryz.prog Yg:=⟨adT,KW⟩
theorem adU:aS Tryz.prog 36 ⟨[(.tmp 0 true [(.dat (.list (.int .u8))),(.dat (.int .i64)),(.dat (.int .i64))])],[(.tmp 0 true [(.dat (.list (.int .u8))),(.dat (.int .i64)),(.dat (.int .i64))])],kJ⟩ :=kU agy dR KX Tryz.func36
def agz:List (Nat×PL):=[(134480385,(.carry [.tmp 5 false [(.dat (.int .i64))]])),(4731607904491797741599,(.carry [.tmp 0 false [(.own 10000005 5 (.int .u8))]])),(1240362622515097827173728769,(.carry [.tmp 0 false [(.own 10000004 5 (.int .u8))]])),(35253226045953,(.carry [])),(166478653090098076060994536529463302,(.carry [.tmp 10 false [(.dat (.int .i64))],.tmp 0 false [(.own 10000003 5 (.int .u8))]])),(4731607904558101301254,(.carry [.tmp 29 false [(.dat (.int .i64))]])),(22344386578253143066077876113397569454080513,(.carry [.tmp 0 false [(.own 10000002 5 (.int .u8))],.dead 10000003])),(22344386578566252773887596188391760879421441,(.carry [.tmp 42 false [(.dat .bool)]])),(786173211465962244325487778989524158473538542178356430854,(.carry [.tmp 7 false [(.dat (.int .i64))],.tmp 0 false [(.own 10000001 5 (.int .u8))],.dead 10000003])),(5857446875251671767157990015209769763975054231041,(.carry [.tmp 46 false [(.dat .bool)]]))]
noncomputable def mZ:((List Int)×Int)->Option Bool:=fun (a1,a2) =>
 aB (bif (decide ((a1.length:Int)>=(8:Int))) then
 bif (decide (((0:Int)<=(6:Int))/\((6:Int)<(a1.length:Int)))) then
 ah a1[6]? fun x3 =>
 bif (decide (((0:Int)<=(7:Int))/\((7:Int)<(a1.length:Int)))) then
 ah a1[7]? fun x6 =>
 ah (some (IntKind.wrap .i64 (((BitVec.toNat ((BitVec.ofInt 64 (IntKind.wrap .i64 ((IntKind.wrap .i64 x3)*(256:Int)))) ||| (BitVec.ofInt 64 (IntKind.wrap .i64 x6)))):Nat):Int))) fun x8 =>
 bif (decide (x8 > (4096:Int))) then
 au (some false)
 else
 some (Sum.inl x8)
 else none
 else none
 else
 some (Sum.inl (0:Int))) fun v9 =>
 aB (aB (aA (fun (v14,v15) =>
 bif (decide (v14<(5:Int))) then
 aB (bif (decide (((0:Int)<=v14)/\(v14<(5:Int)))) then
 ah (((167:Int),(1:Int))::(((0:Int),(1:Int))::(((IntKind.wrap .u32 a2),(4:Int))::(((IntKind.wrap .u32 v9),(2:Int))::(((IntKind.wrap .u32 (IntKind.wrap .i64 ((65535:Int)-v9))),(2:Int))::([]:List (Int×Int)))))))[v14.toNat]? fun x16 =>
 bif (decide (v15.length<=v15.length)) then
 aA (fun (v18,v19) =>
 bif (decide (v18>=(0:Int))) then
 ah (some (IntKind.wrap .i64 ((8:Int)*v18))) fun x20 =>
 bif (decide ((0:Int)<=x20)) then
 ah (some (Int.fdiv x16.1 ((2:Int) ^ (Min.min x20.toNat 32)))) fun x21 =>
 bif (decide (v19.length<=v19.length)) then
 bif (decide (((List.length ((v19.take v19.length)++((IntKind.wrap .u8 x21)::([]:List Int))))*1)<=140737488355328)) then
 ah (some ((v19.take v19.length)++((IntKind.wrap .u8 x21)::([]:List Int)))) fun x23 =>
 bif (decide (x23.length<=x23.length)) then
 some (Sum.inl ((IntKind.wrap .i64 (v18-(1:Int))),(x23.take x23.length)))
 else none
 else none
 else none
 else none
 else
 au (bif (decide (v19.length<=v19.length)) then
 some (Sum.inl (v19.take v19.length))
 else none)) ((IntKind.wrap .i64 (x16.2-(1:Int))),(v15.take v15.length))
 else none
 else none) fun v25 =>
 bif (decide (v25.length<=v25.length)) then
 some (Sum.inl ((IntKind.wrap .i64 (v14+(1:Int))),(v25.take v25.length)))
 else none
 else
 au (bif (decide (v15.length<=v15.length)) then
 some (Sum.inl (v15.take v15.length))
 else none)) ((0:Int),([]:List Int))) fun v27 =>
 bif (decide (v27.length<=v27.length)) then
 some (Sum.inl (v27.take v27.length))
 else none) fun v28 =>
 aB (aA (fun v29 =>
 bif (decide (v29<(Pe (a1.length:Int) (10:Int)))) then
 aB (bif (decide (v29=(1:Int))) then
 some (Sum.inl true)
 else
 bif (decide (v29=(6:Int))) then
 some (Sum.inl true)
 else
 some (Sum.inl (decide (v29=(7:Int))))) fun v30 =>
 bif v30 then
 some (Sum.inl (IntKind.wrap .i64 (v29+(1:Int))))
 else
 aB (bif (decide (v29=(8:Int))) then
 some (Sum.inl true)
 else
 some (Sum.inl (decide (v29=(9:Int))))) fun v32 =>
 bif v32 then
 bif (decide (((0:Int)<=v29)/\(v29<(a1.length:Int)))) then
 ah a1[v29.toNat]? fun x33 =>
 ah (some (IntKind.wrap .i64 (v29-(2:Int)))) fun x34 =>
 bif (decide (((0:Int)<=x34)/\(x34<(a1.length:Int)))) then
 ah a1[x34.toNat]? fun x35 =>
 bif (decide (x33≠(IntKind.wrap .u8 ((255:Int)-x35)))) then
 au (au (some false))
 else
 some (Sum.inl (IntKind.wrap .i64 (v29+(1:Int))))
 else none
 else none
 else
 bif (decide (((0:Int)<=v29)/\(v29<(a1.length:Int)))) then
 ah a1[v29.toNat]? fun x38 =>
 bif (decide (((0:Int)<=v29)/\(v29<(v28.length:Int)))) then
 ah v28[v29.toNat]? fun x39 =>
 bif (decide (x38≠x39)) then
 au (au (some false))
 else
 some (Sum.inl (IntKind.wrap .i64 (v29+(1:Int))))
 else none
 else none
 else
 au (some (Sum.inl ()))) (0:Int)) fun _ =>
 some true
noncomputable def Yh:List (Nat×CE):=(36,⟨[(.tmp 0 true [(.dat (.list (.int .u8))),(.dat (.int .i64)),(.dat (.int .i64))])],[(.tmp 0 true [(.dat (.list (.int .u8))),(.dat (.int .i64)),(.dat (.int .i64))])],kJ⟩)::Yg
theorem KY:dD Tryz.prog Yh:=⟨adU,KX⟩
theorem akm:aS Tryz.prog 89 ⟨[(.tmp 0 false [(.dat (.list (.int .u8)))]),(.tmp 1 false [(.dat (.int .i64))])],[(.tmp 0 false [(.dat .bool)])],mZ⟩ :=kU agz dR KY Tryz.func89
def adV:List (Nat×PL):=[(134480385,(.carry [])),(18049651601311750,(.carry [.tmp 6 false [(.dat (.int .i64))]]))]
noncomputable def jB:((List Int)×Int)->Option Bool:=fun (a1,a2) =>
 ah (dQ (a2,(4:Int))) fun x3 =>
 bif (decide ((2=0)\/(x3.length≠0))) then
 bif (decide (((List.length (((167:Int)::((0:Int)::([]:List Int)))++x3))*1)<=140737488355328)) then
 ah (some (((167:Int)::((0:Int)::([]:List Int)))++x3)) fun x4 =>
 aB (aA (fun v5 =>
 bif (decide (v5<(6:Int))) then
 bif (decide (v5<(a1.length:Int))) then
 bif (decide (v5≠(1:Int))) then
 bif (decide (((0:Int)<=v5)/\(v5<(a1.length:Int)))) then
 ah a1[v5.toNat]? fun x6 =>
 bif (decide (((0:Int)<=v5)/\(v5<(x4.length:Int)))) then
 ah x4[v5.toNat]? fun x7 =>
 bif (decide (x6≠x7)) then
 au (au (some true))
 else
 some (Sum.inl (IntKind.wrap .i64 (v5+(1:Int))))
 else none
 else none
 else
 some (Sum.inl (IntKind.wrap .i64 (v5+(1:Int))))
 else
 au (some (Sum.inl ()))
 else
 au (some (Sum.inl ()))) (0:Int)) fun _ =>
 bif (decide ((a1.length:Int)>=(8:Int))) then
 bif (decide (((0:Int)<=(6:Int))/\((6:Int)<(a1.length:Int)))) then
 ah a1[6]? fun x10 =>
 bif (decide (((0:Int)<=(7:Int))/\((7:Int)<(a1.length:Int)))) then
 ah a1[7]? fun x13 =>
 bif (decide ((IntKind.wrap .i64 ((IntKind.wrap .i64 ((256:Int)*(IntKind.wrap .i64 x10)))+(IntKind.wrap .i64 x13))) > (4096:Int))) then
 some true
 else
 bif (decide ((a1.length:Int)>=(9:Int))) then
 bif (decide (((0:Int)<=(8:Int))/\((8:Int)<(a1.length:Int)))) then
 ah a1[8]? fun x16 =>
 bif (decide (((0:Int)<=(6:Int))/\((6:Int)<(a1.length:Int)))) then
 ah a1[6]? fun x18 =>
 bif (decide ((IntKind.wrap .i64 x16)≠(IntKind.wrap .i64 ((255:Int)-(IntKind.wrap .i64 x18))))) then
 some true
 else
 bif (decide ((a1.length:Int)>=(10:Int))) then
 bif (decide (((0:Int)<=(9:Int))/\((9:Int)<(a1.length:Int)))) then
 ah a1[9]? fun x21 =>
 bif (decide (((0:Int)<=(7:Int))/\((7:Int)<(a1.length:Int)))) then
 ah a1[7]? fun x23 =>
 some (decide ((IntKind.wrap .i64 x21)≠(IntKind.wrap .i64 ((255:Int)-(IntKind.wrap .i64 x23)))))
 else none
 else none
 else
 some false
 else none
 else none
 else
 bif (decide ((a1.length:Int)>=(10:Int))) then
 bif (decide (((0:Int)<=(9:Int))/\((9:Int)<(a1.length:Int)))) then
 ah a1[9]? fun x26 =>
 bif (decide (((0:Int)<=(7:Int))/\((7:Int)<(a1.length:Int)))) then
 ah a1[7]? fun x28 =>
 some (decide ((IntKind.wrap .i64 x26)≠(IntKind.wrap .i64 ((255:Int)-(IntKind.wrap .i64 x28)))))
 else none
 else none
 else
 some false
 else none
 else none
 else
 bif (decide ((a1.length:Int)>=(9:Int))) then
 bif (decide (((0:Int)<=(8:Int))/\((8:Int)<(a1.length:Int)))) then
 ah a1[8]? fun x31 =>
 bif (decide (((0:Int)<=(6:Int))/\((6:Int)<(a1.length:Int)))) then
 ah a1[6]? fun x33 =>
 bif (decide ((IntKind.wrap .i64 x31)≠(IntKind.wrap .i64 ((255:Int)-(IntKind.wrap .i64 x33))))) then
 some true
 else
 bif (decide ((a1.length:Int)>=(10:Int))) then
 bif (decide (((0:Int)<=(9:Int))/\((9:Int)<(a1.length:Int)))) then
 ah a1[9]? fun x36 =>
 bif (decide (((0:Int)<=(7:Int))/\((7:Int)<(a1.length:Int)))) then
 ah a1[7]? fun x38 =>
 some (decide ((IntKind.wrap .i64 x36)≠(IntKind.wrap .i64 ((255:Int)-(IntKind.wrap .i64 x38)))))
 else none
 else none
 else
 some false
 else none
 else none
 else
 bif (decide ((a1.length:Int)>=(10:Int))) then
 bif (decide (((0:Int)<=(9:Int))/\((9:Int)<(a1.length:Int)))) then
 ah a1[9]? fun x41 =>
 bif (decide (((0:Int)<=(7:Int))/\((7:Int)<(a1.length:Int)))) then
 ah a1[7]? fun x43 =>
 some (decide ((IntKind.wrap .i64 x41)≠(IntKind.wrap .i64 ((255:Int)-(IntKind.wrap .i64 x43)))))
 else none
 else none
 else
 some false
 else none
 else none
noncomputable def Ub:List (Nat×CE):=(89,⟨[(.tmp 0 false [(.dat (.list (.int .u8)))]),(.tmp 1 false [(.dat (.int .i64))])],[(.tmp 0 false [(.dat .bool)])],mZ⟩)::Yh
theorem Il:dD Tryz.prog Ub:=⟨akm,KY⟩
theorem agA:aS Tryz.prog 106 ⟨[(.tmp 0 false [(.dat (.list (.int .u8)))]),(.tmp 1 false [(.dat (.int .i64))])],[(.tmp 0 false [(.dat .bool)])],jB⟩ :=kU adV dR Il Tryz.func106
def agB:List (Nat×PL):=[(1240362622532514091484054017,(.carry [])),(166478653092435647486973878257059846,(.carry [.tmp 11 false [(.dat (.int .i64))]]))]
noncomputable def kK:((List Int)×Int)->Option ((Int×(List Int))×(Int×Int)):=fun (a1,a2) =>
 bif (decide (a2>=(1048576:Int))) then
 some (((0:Int),([]:List Int)),((0:Int),(5:Int)))
 else
 ah (jB (a1,a2)) fun x3 =>
 bif x3 then
 some (((0:Int),([]:List Int)),((0:Int),(5:Int)))
 else
 bif (decide ((a1.length:Int)<(14:Int))) then
 some (((0:Int),([]:List Int)),((0:Int),(6:Int)))
 else
 bif (decide (((0:Int)<=(6:Int))/\((6:Int)<(a1.length:Int)))) then
 ah a1[6]? fun x4 =>
 bif (decide (((0:Int)<=(7:Int))/\((7:Int)<(a1.length:Int)))) then
 ah a1[7]? fun x7 =>
 ah (some (IntKind.wrap .i64 ((IntKind.wrap .i64 ((256:Int)*(IntKind.wrap .i64 x4)))+(IntKind.wrap .i64 x7)))) fun x9 =>
 bif (decide ((a1.length:Int)<(IntKind.wrap .i64 ((14:Int)+x9)))) then
 some (((0:Int),([]:List Int)),((0:Int),(6:Int)))
 else
 bif (decide (((0:Int)<=(1:Int))/\((1:Int)<(a1.length:Int)))) then
 ah a1[1]? fun x11 =>
 ah (some (IntKind.wrap .i64 ((10:Int)+x9))) fun x12 =>
 bif ((decide (((0:Int)<=x12)/\(x12<=(a1.length:Int))))&&(decide (((0:Int)<=(10:Int))/\((10:Int)<=((x12.toNat:Nat):Int))))) then
 ah (some (List.take (x12.toNat-10) (a1.drop 10))) fun x13 =>
 bif (decide ((x13.length*1)<=140737488355328)) then
 bif (decide (x13.length<=x13.length)) then
 ah (eP (a2,(x11,(x13.take x13.length)))) fun (x16,x17) =>
 aB (aA (fun v18 =>
 bif (decide (v18<(IntKind.wrap .i64 ((14:Int)+x9)))) then
 bif (decide (((0:Int)<=v18)/\(v18<(a1.length:Int)))) then
 ah a1[v18.toNat]? fun x20 =>
 bif (decide (((0:Int)<=v18)/\(v18<(x16.length:Int)))) then
 ah x16[v18.toNat]? fun x21 =>
 bif (decide (x20≠x21)) then
 au (au (some (((0:Int),([]:List Int)),((0:Int),(11:Int)))))
 else
 some (Sum.inl (IntKind.wrap .i64 (v18+(1:Int))))
 else none
 else none
 else
 au (some (Sum.inl ()))) (0:Int)) fun _ =>
 bif (decide (x13.length<=x13.length)) then
 some ((x11,(x13.take x13.length)),((IntKind.wrap .i64 ((14:Int)+x9)),(0:Int)))
 else none
 else none
 else none
 else none
 else none
 else none
 else none
noncomputable def Yi:List (Nat×CE):=(106,⟨[(.tmp 0 false [(.dat (.list (.int .u8)))]),(.tmp 1 false [(.dat (.int .i64))])],[(.tmp 0 false [(.dat .bool)])],jB⟩)::Ub
theorem KZ:dD Tryz.prog Yi:=⟨agA,Il⟩
theorem akn:aS Tryz.prog 95 ⟨[(.tmp 0 false [(.dat (.list (.int .u8)))]),(.tmp 1 false [(.dat (.int .i64))])],[(.tmp 0 true [(.dat (.int .u8)),(.dat (.list (.int .u8)))]),(.tmp 1 false [(.dat (.int .i64))]),(.tmp 2 false [(.dat (.int .u8))])],kK⟩ :=kU agB dR KZ Tryz.func95
def agC:List (Nat×PL):=[(68853957121,(.carry [.tmp 6 false [(.own 10000002 56 (.pair (.int .u8) (.list (.int .u8))))],.mix 5 [(.dat (.list (.int .u8))),(.dat (.int .i64))]])),(18049651735267334,(.carry [.tmp 6 false [(.own 10000001 56 (.pair (.int .u8) (.list (.int .u8))))],.mix 5 [(.dat (.list (.int .u8))),(.dat (.int .i64))]])),(635065662727478061920772423698,(.carry [.tmp 0 true [(.dat (.int .u8)),(.dat (.list (.int .u8)))],.tmp 1 false [(.dat (.int .u8))],.mix 5 [(.dat (.list (.int .u8))),(.dat (.int .i64))]])),(1535494553643848147957046146350893561080790863294234647,(.carry [.tmp 0 false [(.own 10000007 5 (.int .u8))]])),(402520684270412928898051904989008641675962840067403847303681,(.carry [.tmp 0 false [(.own 10000006 5 (.int .u8))]])),(54025411715780160938522070313696604858113844606274311243558855903238,(.carry [.tmp 10 false [(.dat (.int .i64))],.tmp 0 false [(.own 10000005 5 (.int .u8))]])),(7251168014756594948642779955360605585369802588399192599875324273611992465921,(.carry [.tmp 0 false [(.own 10000004 5 (.int .u8))],.dead 10000005])),(255127793509833283213226307541386370055522207196370380466337639895518932455627391984994310,(.carry [.tmp 7 false [(.dat (.int .i64))],.tmp 0 false [(.own 10000003 5 (.int .u8))],.dead 10000005]))]
noncomputable def pW:(List Int)->Option ((List (Int×(List Int)))×(Int×Int)):=fun a1 =>
 aB (aA (fun (v2,(v3,v4)) =>
 bif (decide (v4<(a1.length:Int))) then
 bif (decide ((v2.length:Int)>=(1048576:Int))) then
 au (au (bif (decide (v2.length<=v2.length)) then
 some ((v2.take v2.length),(v4,(5:Int)))
 else none))
 else
 aB (bif ((decide (((0:Int)<=(v3.length:Int))/\((v3.length:Int)<=(v3.length:Int))))&&((decide (((0:Int)<=(v3.length:Int))/\((v3.length:Int)<=(((Int.toNat (v3.length:Int)):Nat):Int))))&&(decide (((0:Int)<=v4)/\(v4<=(((Int.toNat (v3.length:Int)):Nat):Int)))))) then
 ah (some (List.take ((Int.toNat (v3.length:Int))-v4.toNat) (List.drop v4.toNat v3))) fun x5 =>
 ah (mZ (x5,(v2.length:Int))) fun x6 =>
 bif (!x6) then
 some (Sum.inl (((0:Int),([]:List Int)),((5:Int),(v3,v4))))
 else
 bif (decide ((x5.length:Int)<(10:Int))) then
 some (Sum.inl (((0:Int),([]:List Int)),((6:Int),(v3,v4))))
 else
 bif (decide (((0:Int)<=(6:Int))/\((6:Int)<(x5.length:Int)))) then
 ah x5[6]? fun x7 =>
 bif (decide (((0:Int)<=(7:Int))/\((7:Int)<(x5.length:Int)))) then
 ah x5[7]? fun x10 =>
 ah (some (IntKind.wrap .i64 (((BitVec.toNat ((BitVec.ofInt 64 (IntKind.wrap .i64 ((IntKind.wrap .i64 x7)*(256:Int)))) ||| (BitVec.ofInt 64 (IntKind.wrap .i64 x10)))):Nat):Int))) fun x12 =>
 ah (some (IntKind.wrap .i64 ((10:Int)+x12))) fun x13 =>
 bif (decide ((x5.length:Int)<(IntKind.wrap .i64 (x13+(4:Int))))) then
 some (Sum.inl (((0:Int),([]:List Int)),((6:Int),(v3,v4))))
 else
 bif ((decide (((0:Int)<=x13)/\(x13<=(x5.length:Int))))&&(decide (((0:Int)<=x13)/\(x13<=((x13.toNat:Nat):Int))))) then
 ah (lY (List.take x13.toNat x5)) fun x16 =>
 aB (aB (aA (fun (v17,v18) =>
 bif (decide (v17<(1:Int))) then
 aB (bif (decide (((0:Int)<=v17)/\(v17<(1:Int)))) then
 ah ((x16,(4:Int))::([]:List (Int×Int)))[v17.toNat]? fun x19 =>
 bif (decide (v18.length<=v18.length)) then
 aA (fun (v21,v22) =>
 bif (decide (v21>=(0:Int))) then
 ah (some (IntKind.wrap .i64 ((8:Int)*v21))) fun x23 =>
 bif (decide ((0:Int)<=x23)) then
 ah (some (Int.fdiv x19.1 ((2:Int) ^ (Min.min x23.toNat 32)))) fun x24 =>
 bif (decide (v22.length<=v22.length)) then
 bif (decide (((List.length ((v22.take v22.length)++((IntKind.wrap .u8 x24)::([]:List Int))))*1)<=140737488355328)) then
 ah (some ((v22.take v22.length)++((IntKind.wrap .u8 x24)::([]:List Int)))) fun x26 =>
 bif (decide (x26.length<=x26.length)) then
 some (Sum.inl ((IntKind.wrap .i64 (v21-(1:Int))),(x26.take x26.length)))
 else none
 else none
 else none
 else none
 else
 au (bif (decide (v22.length<=v22.length)) then
 some (Sum.inl (v22.take v22.length))
 else none)) ((IntKind.wrap .i64 (x19.2-(1:Int))),(v18.take v18.length))
 else none
 else none) fun v28 =>
 bif (decide (v28.length<=v28.length)) then
 some (Sum.inl ((IntKind.wrap .i64 (v17+(1:Int))),(v28.take v28.length)))
 else none
 else
 au (bif (decide (v18.length<=v18.length)) then
 some (Sum.inl (v18.take v18.length))
 else none)) ((0:Int),([]:List Int))) fun v30 =>
 bif (decide (v30.length<=v30.length)) then
 some (Sum.inl (v30.take v30.length))
 else none) fun v31 =>
 bif (decide (v31.length<=v31.length)) then
 ah (some (IntKind.wrap .i64 (x13+(4:Int)))) fun x32 =>
 ah (some (IntKind.wrap .i64 (x13+(4:Int)))) fun x33 =>
 bif ((decide (((0:Int)<=x33)/\(x33<=(x5.length:Int))))&&((decide (((0:Int)<=x32)/\(x32<=((x33.toNat:Nat):Int))))&&(decide (((0:Int)<=x13)/\(x13<=((x32.toNat:Nat):Int)))))) then
 bif (decide ((jS (v31.take v31.length))≠(jS (List.take (x32.toNat-x13.toNat) (List.drop x13.toNat x5))))) then
 some (Sum.inl (((0:Int),([]:List Int)),((11:Int),(v3,v4))))
 else
 bif (decide (((0:Int)<=x12)/\((x12<=x12)/\(((x12*(1:Int))<=(140737488355328:Int))/\(x12<=(9223372036854775807:Int)))))) then
 bif ((decide (((0:Int)<=x13)/\(x13<=(x5.length:Int))))&&((decide (((0:Int)<=x13)/\(x13<=((x13.toNat:Nat):Int))))&&(decide (((0:Int)<=(10:Int))/\((10:Int)<=((x13.toNat:Nat):Int)))))) then
 ah (some (List.take (x13.toNat-10) (x5.drop 10))) fun x35 =>
 bif (decide (x12.toNat<=(List.length (List.replicate x12.toNat (0:Int))))) then
 bif (decide (((0:Int)<=(1:Int))/\((1:Int)<(x5.length:Int)))) then
 ah x5[1]? fun x38 =>
 bif (decide (x12.toNat<=(List.length (zM (List.replicate x12.toNat (0:Int)) 0 (List.take x12.toNat x35))))) then
 some (Sum.inl ((x38,(List.take x12.toNat (zM (List.replicate x12.toNat (0:Int)) 0 (List.take x12.toNat x35)))),((0:Int),(v3,(IntKind.wrap .i64 (v4+(IntKind.wrap .i64 (x13+(4:Int)))))))))
 else none
 else none
 else none
 else none
 else none
 else none
 else none
 else none
 else none
 else none
 else none) fun ((v39,v40),(v41,(v42,v43))) =>
 bif (decide (v41≠(0:Int))) then
 au (au (bif (decide (v2.length<=v2.length)) then
 some ((v2.take v2.length),(v43,v41))
 else none))
 else
 bif (decide (v2.length<=v2.length)) then
 bif (decide (((List.length ((v2.take v2.length)++((v39,v40)::([]:List (Int×(List Int))))))*32)<=140737488355328)) then
 ah (some ((v2.take v2.length)++((v39,v40)::([]:List (Int×(List Int)))))) fun x44 =>
 bif (decide (x44.length<=x44.length)) then
 some (Sum.inl ((x44.take x44.length),(v42,v43)))
 else none
 else none
 else none
 else
 au (bif (decide (v2.length<=v2.length)) then
 some (Sum.inl ((v2.take v2.length),(v3,v4)))
 else none)) (([]:List (Int×(List Int))),(a1,(0:Int)))) fun (v45,(v46,v47)) =>
 bif (decide (v45.length<=v45.length)) then
 some ((v45.take v45.length),(v47,(0:Int)))
 else none
noncomputable def Yj:List (Nat×CE):=(95,⟨[(.tmp 0 false [(.dat (.list (.int .u8)))]),(.tmp 1 false [(.dat (.int .i64))])],[(.tmp 0 true [(.dat (.int .u8)),(.dat (.list (.int .u8)))]),(.tmp 1 false [(.dat (.int .i64))]),(.tmp 2 false [(.dat (.int .u8))])],kK⟩)::Yi
theorem La:dD Tryz.prog Yj:=⟨akn,KZ⟩
theorem ako:aS Tryz.prog 39 ⟨[(.tmp 0 false [(.dat (.list (.int .u8)))])],[(.tmp 0 false [(.dat (.list (.pair (.int .u8) (.list (.int .u8)))))]),(.tmp 1 false [(.dat (.int .i64))]),(.tmp 2 false [(.dat (.int .u8))])],pW⟩ :=kU agC dR La Tryz.func39
def agD:List (Nat×PL):=[(68853957121,(.carry [.tmp 6 false [(.dat (.int .i64))],.tmp 5 false [(.own 10000002 56 (.pair (.int .u8) (.list (.int .u8))))]])),(18049651735267334,(.carry [.tmp 6 false [(.dat (.int .i64))],.tmp 5 false [(.own 10000001 56 (.pair (.int .u8) (.list (.int .u8))))]]))]
noncomputable def jW:(List Int)->Option ((List (Int×(List Int)))×(Int×Int)):=fun a1 =>
 aB (aA (fun (v2,v3) =>
 bif (decide (v2<(a1.length:Int))) then
 bif (decide (((0:Int)<=v2)/\(v2<=(a1.length:Int)))) then
 ah (kK ((List.drop v2.toNat a1),(v3.length:Int))) fun ((x6,x7),(x8,x9)) =>
 bif (decide (x9≠(0:Int))) then
 au (au (bif (decide (v3.length<=v3.length)) then
 some ((v3.take v3.length),(v2,x9))
 else none))
 else
 bif (decide (v3.length<=v3.length)) then
 bif (decide (((List.length ((v3.take v3.length)++((x6,x7)::([]:List (Int×(List Int))))))*32)<=140737488355328)) then
 ah (some ((v3.take v3.length)++((x6,x7)::([]:List (Int×(List Int)))))) fun x10 =>
 bif (decide (x10.length<=x10.length)) then
 some (Sum.inl ((IntKind.wrap .i64 (v2+x8)),(x10.take x10.length)))
 else none
 else none
 else none
 else none
 else
 au (bif (decide (v3.length<=v3.length)) then
 some (Sum.inl (v2,(v3.take v3.length)))
 else none)) ((0:Int),([]:List (Int×(List Int))))) fun (v12,v13) =>
 bif (decide (v13.length<=v13.length)) then
 some ((v13.take v13.length),(v12,(0:Int)))
 else none
noncomputable def Yk:List (Nat×CE):=(39,⟨[(.tmp 0 false [(.dat (.list (.int .u8)))])],[(.tmp 0 false [(.dat (.list (.pair (.int .u8) (.list (.int .u8)))))]),(.tmp 1 false [(.dat (.int .i64))]),(.tmp 2 false [(.dat (.int .u8))])],pW⟩)::Yj
theorem Lc:dD Tryz.prog Yk:=⟨ako,La⟩
theorem akp:aS Tryz.prog 73 ⟨[(.tmp 0 false [(.dat (.list (.int .u8)))])],[(.tmp 0 false [(.dat (.list (.pair (.int .u8) (.list (.int .u8)))))]),(.tmp 1 false [(.dat (.int .i64))]),(.tmp 2 false [(.dat (.int .u8))])],jW⟩ :=kU agD dR Lc Tryz.func73
def agE:List (Nat×PL):=[]
noncomputable def jv:(List Int)->Option (((List Int)×(Int×Int))×(List (Int×(List Int)))):=fun a1 =>
 ah (pW a1) fun (x3,(x4,x5)) =>
 bif ((decide (((0:Int)<=x4)/\(x4<=(a1.length:Int))))&&(decide (((0:Int)<=x4)/\(x4<=((x4.toNat:Nat):Int))))) then
 ah (jV ((List.take x4.toNat a1),([]:List Int))) fun x7 =>
 some ((x7,(x4,(x3.length:Int))),x3)
 else none
noncomputable def Yl:List (Nat×CE):=(73,⟨[(.tmp 0 false [(.dat (.list (.int .u8)))])],[(.tmp 0 false [(.dat (.list (.pair (.int .u8) (.list (.int .u8)))))]),(.tmp 1 false [(.dat (.int .i64))]),(.tmp 2 false [(.dat (.int .u8))])],jW⟩)::Yk
theorem Ld:dD Tryz.prog Yl:=⟨akp,Lc⟩
theorem adW:aS Tryz.prog 18 ⟨[(.tmp 0 false [(.dat (.list (.int .u8)))])],[(.tmp 0 true [(.dat (.list (.int .u8))),(.dat (.int .i64)),(.dat (.int .i64))]),(.tmp 1 false [(.dat (.list (.pair (.int .u8) (.list (.int .u8)))))])],jv⟩ :=kU agE dR Ld Tryz.func18
def agF:List (Nat×PL):=[]
noncomputable def gI:(List Int)->Option (((List Int)×(Int×Int))×(List (Int×(List Int)))):=fun a1 =>
 ah (jW a1) fun (x3,(x4,x5)) =>
 bif (decide (((0:Int)<=x4)/\(x4<=(a1.length:Int)))) then
 ah (je (List.take x4.toNat a1)) fun x7 =>
 some ((x7,(x4,(x3.length:Int))),x3)
 else none
noncomputable def agG:List (Nat×CE):=(18,⟨[(.tmp 0 false [(.dat (.list (.int .u8)))])],[(.tmp 0 true [(.dat (.list (.int .u8))),(.dat (.int .i64)),(.dat (.int .i64))]),(.tmp 1 false [(.dat (.list (.pair (.int .u8) (.list (.int .u8)))))])],jv⟩)::Yl
theorem V9:dD Tryz.prog agG:=⟨adW,Ld⟩
theorem akq:aS Tryz.prog 53 ⟨[(.tmp 0 false [(.dat (.list (.int .u8)))])],[(.tmp 0 true [(.dat (.list (.int .u8))),(.dat (.int .i64)),(.dat (.int .i64))]),(.tmp 1 false [(.dat (.list (.pair (.int .u8) (.list (.int .u8)))))])],gI⟩ :=kU agF dR V9 Tryz.func53
section
variable {P:Program} {GL:Nat->Option (List DV)} {q:Nat->Bool} {N:Nat} {E:En} {a:Act} {w:World} {s:S}
theorem Uc {T:Ty} {rd:Nat->Option AO} {slot:Nat} {o:Oper} {ρ:Operand->AV} {f:Eff} (hf:eff T q rd slot o ρ=some f):∀c,o.op ≠ .defer c:=fun c h=>by
 unfold eff at hf;simp only [BU,BX,Ji,h] at hf;revert hf
 repeat' split
 all_goals simp_all
end
structure Io (P:Program) (F:Fence):Prop where
 fn:∀f,F.fn f
 dep:F.depth=none
 calls:∀ {n:Nat} {f:FuncId} {args:Array Value} {w:World} {R:Ending->World->Prop},Calls P f args w R->CallsIn F n P f args w R
theorem anJ (P:Program):Io P Fence.wide:=⟨fun _=>trivial,rfl,fun h=>callsIn_wide.2 h⟩
theorem aiw (P:Program) (l:Nat):Io P (Fence.wide.inRound l):=⟨fun _=>trivial,rfl,fun h=>CallsIn.inRound l (callsIn_wide.2 h)⟩
structure nN (df:List Deferred) (GL:Nat->Option (List DV)) (N:Nat) (E:En) (a:Act) (w:World) (s:S):Prop where
 sm:sF GL N E ⟨a.tmps,[]⟩ w s
 dq:a.defers=df
theorem akr (a:Act) (d:Option Nat) (v:Value):(⟨(a.put d v).tmps,[]⟩:Act)=(⟨a.tmps,[]⟩:Act).put d v:=by cases d<;>rfl
theorem aks (a:Act) (d:Option Nat) (v:Value):(a.put d v).defers=a.defers:=by cases d<;>rfl
section
variable {df:List Deferred} {GL:Nat->Option (List DV)} {N:Nat} {E:En} {a:Act} {w:World} {s:S}
theorem nN.h (h:nN df GL N E a w s):w.heap=E.h:=h.sm.h
theorem nN.hp (h:nN df GL N E a w s):E.hp=s.hp:=h.sm.hp
theorem nN.sim (h:nN df GL N E a w s):fZ GL E:=h.sm.sim
theorem nN.ev (h:nN df GL N E a w s) (x:Operand):Rel E (s.ev GL x) (a.eval x):=h.sm.ev x
theorem nN.drew (h:nN df GL N E a w s):nN df GL N E a {w with drawn:=w.drawn+1} s:=⟨h.sm.drew,h.dq⟩
theorem nN.put (h:nN df GL N E a w s) {E':En} {w':World} {us:List (Nat×AO)} (hg:Goes GL E w us E' w') {d:Option Nat} (hd:∀t,d=some t->t<N) {v:AV} {u:Value} (hr:Rel E' v u) :
 nN df GL N E' (a.put d u) w' {(s.put d v) with hp:=dU s.hp us}:=⟨by rw [akr];exact h.sm.put hg hd hr,by rw [aks];exact h.dq⟩
theorem Ip {ops:Array Oper} (h:nN df GL N E a w s) {o:Oper} {b:Bool} (hw:tq ops s o=some b):Region.wanted o (yielded ops a.tmps)=b:=Cc h.sm hw
end
section
variable {df:List Deferred} {F:Fence} {P:Program} {GL:Nat->Option (List DV)} {q:Nat->Bool} {N:Nat} {E:En} {a:Act} {w:World} {s:S}
theorem agH (hF:Io P F) (n:Nat) (hq:Ny P q) (hdp:30<=P.depth) (h:nN df GL N E a w s) {slot:Nat} {o:Oper} {e:Ef} (he:EfR P GL q slot o s e) (hd:∀t,o.dst=some t->t<N) {K:Act->World->Prop} {Q:Exit->Act->World->Prop}
 (hK:∀a' w' E',Goes GL E w e.upd E' w'->nN df GL N E' a' w' (s.app o.dst e)->K a' w'):o.wpIn F n P a w K Q:=by
 obtain ⟨_,he⟩:=he;refine ⟨fun f _=>hF.fn f,?_⟩;split at he
 ·rename_i f args hc;obtain ⟨_,hdo⟩:=he;obtain ⟨vs,hrun,hrel⟩:=Jy (P:=P) h.sm hc;rw [show (⟨a.tmps,[]⟩:Act).eval=a.eval from rfl] at hrun;rw [Oper.semAt_eq _ _ _ (fun c hcd=>by unfold vM at hc;rw [hcd] at hc;cases hc),hrun];rcases hdo with ⟨hf,hdo⟩ | hdo
  ·rw [Jz hf];refine ⟨fun g=>(by rw [hF.dep] at g;cases g),hF.calls ((hdo E w vs (fun r _=>by rw [h.hp]) h.h h.sim hrel).mono ?_)⟩;rintro en w' ⟨u,E',rfl,hg,hr⟩;exact hK _ _ E' hg (h.put hg hd hr)
  ·obtain ⟨u,w',E',hrun2,hg,hr⟩:=hdo E w vs (fun r _=>by rw [h.hp]) h.h h.sim hrel;rw [hrun2];exact hK _ _ E' hg (h.put hg hd hr)
 ·rename_i hc;obtain ⟨f,hf,e1,e2,_,_⟩:=he;obtain ⟨n',w',E',u,hrun,hn,hg,hr⟩:=WY hq hdp h.sm hf;rw [show (⟨a.tmps,[]⟩:Act).eval=a.eval from rfl] at hrun;rw [Oper.semAt_eq _ _ _ (Uc hf),hrun];rw [<-e2] at hg;rw [<-e1] at hr;rcases hn with rfl | ⟨rfl,rfl⟩
  ·exact hK _ _ E' hg (h.put hg hd hr)
  ·exact hK _ _ E' hg (h.put hg hd hr)
end
section
variable {df:List Deferred} {F:Fence} {P:Program} {GL:Nat->Option (List DV)} {q:Nat->Bool} {N base:Nat} {ops:Array Oper}
theorem Ud (hF:Io P F) (n:Nat) (hq:Ny P q) (hdp:30<=P.depth) {E0:En} {w0:World} {E:En} {a:Act} {w:World} {s:S} (hS:nN df GL N E a w s) (hA:dK E0 w0 E w) {i:Nat} {e:Ef} (h:nJ P GL q N base ops i s e) {Q:Exit->Act->World->Prop} {K:Act->World->Prop}
 (hK:∀E' a' w',nN df GL N E' a' w' (s.app (oO ops i) e)->dK E0 w0 E' w'->K a' w'):wpOpIn F n P ops Q i K a w:=by
 unfold nJ at h;unfold wpOpIn;split at h
 ·exact h.elim
 ·rename_i o ho;rw [ho];simp only;have hdi:oO ops i=o.dst:=by simp [oO,ho]
  rw [hdi] at hK;obtain ⟨hd,⟨hw,he⟩ | ⟨hw,rfl⟩⟩:=h
  ·rw [Ip hS hw,if_pos rfl];exact agH hF n hq hdp hS he hd fun a' w' E' hg hs=>hK E' a' w' hs (hA.goes hg)
  ·rw [Ip hS hw,if_neg (by simp)];have:=hS.put (Goes.refl hS.h hS.sim) hd (v := .undef) (u:=undef) (by rw [Rel]);exact ⟨fun f _=>hF.fn f,hK E _ w this hA⟩
theorem Ym (hF:Io P F) (n:Nat) (hq:Ny P q) (hdp:30<=P.depth) {E0:En} {w0:World} {Q:Exit->Act->World->Prop} {s':S} (hQ:∀E' a' w',nN df GL N E' a' w' s'->dK E0 w0 E' w'->Q .normal a' w'):∀(L:List (Nat×Ef)) (E:En) (a:Act) (w:World) (s:S),Run P GL q N base ops L s s'->nN df GL N E a w s->dK E0 w0 E w->wpOpsIn F n P ops Q (L.map (·.1)) a w
 | [],E,a,w,s,hR,hS,hA=>by
   have:s=s':=hR;subst this;exact hQ E a w hS hA
 | (i,e)::L,E,a,w,s,hR,hS,hA=>by
   rw [List.map_cons,wpOpsIn_cons];exact Ud hF n hq hdp hS hA hR.1 fun E' a' w' hs ha=>Ym hF n hq hdp hQ L E' a' w' _ hR.2 hs ha
theorem Yn (hF:Io P F) (fn:Nat) (hq:Ny P q) (hdp:30<=P.depth) (hback:Ht ops=true) {E0:En} {w0:World} {Q:Exit->Act->World->Prop} {s':S} (hQ:∀E' a' w',nN df GL N E' a' w' s'->dK E0 w0 E' w'->Q .normal a' w'):∀(n:Nat) (L:List (Nat×Ef)) (listed:Array Bool) (E:En) (a:Act) (w:World) (s:S),L.length=n ->
 Az ops listed->(∀i,listed.getD i true=false/\i<ops.size↔i∈L.map (·.1))->(L.map (·.1)).Pairwise (· < ·) ->
 L.Pairwise (fun x y=>x.1∈(uz ops ops.size).getD y.1 []\/∃ox oy,ops[x.1]? = some ox/\ops[y.1]? = some oy/\ox.apart ops oy=true/\U1 x.2 y.2=true) ->
 Run P GL q N base ops L s s'->nN df GL N E a w s->dK E0 w0 E w->wpAnyIn F fn P .any ops Q n listed a w
 | 0,L,listed,E,a,w,s,hn,hC,hL,hsort,hchk,hR,hS,hA=>by
   have:L=[]:=List.eq_nil_of_length_eq_zero hn;subst this;have hs:s=s':=hR;subst hs;refine ⟨?_,hQ E a w hS hA⟩;cases hr:Region.ready .any ops listed with
   | nil=>rfl
   | cons i l =>
     have hi:i∈Region.ready .any ops listed:=by rw [hr];exact List.mem_cons_self
     obtain ⟨h1,o,h2,_⟩:=mem_ready.1 hi;have:=(hL i).1 ⟨h1,(Array.getElem?_eq_some_iff.1 h2).1⟩;simp at this
 | n+1,L,listed,E,a,w,s,hn,hC,hL,hsort,hchk,hR,hS,hA=>by
   have hready:∀i,i∈Region.ready .any ops listed->i∈L.map (·.1):=fun i hi=>by
    obtain ⟨h1,o,h2,_⟩:=mem_ready.1 hi;exact (hL i).1 ⟨h1,(Array.getElem?_eq_some_iff.1 h2).1⟩
   refine ⟨fun h0 => ?_,fun i hi => ?_⟩
   ·exfalso;cases L with
    | nil=>simp at hn
    | cons x L =>
      obtain ⟨i,e⟩:=x;obtain ⟨hun,hlt⟩:=(hL i).2 (by simp);have hrd:i∈Region.ready .any ops listed:=by
       refine mem_ready.2 ⟨hun,ops[i],Array.getElem?_eq_getElem hlt,fun ed hed hb => ?_⟩;have hp:ed.on∈nR ops i:=by
        unfold nR;rw [Array.getElem?_eq_getElem hlt];exact List.mem_map.2 ⟨ed,List.mem_filter.2 ⟨by simpa using hed,hb⟩,rfl⟩
       have hlt2:ed.on<i:=by
        have:=List.all_eq_true.1 hback i (List.mem_range.2 hlt);have:=List.all_eq_true.1 this _ hp;simpa using this
       cases hg:listed.getD ed.on false with
       | true=>rfl
       | false =>
         have hnot:ed.on∉List.map (·.1) ((i,e)::L):=fun hm=>by
          rcases List.mem_cons.1 hm with h | h
          ·simp at h;omega
          ·have:=(List.pairwise_cons.1 hsort).1 _ h;simp at this;omega
         have h6:¬(listed.getD ed.on true=false/\ed.on<ops.size):=fun h=>hnot ((hL ed.on).1 h);have:listed.getD ed.on true=true:=by
          cases h7:listed.getD ed.on true with
          | true=>rfl
          | false=>exact (h6 ⟨h7,by omega⟩).elim
         have hsz:ed.on<listed.size:=by
          have h8:i<listed.size:=by
           rcases Nat.lt_or_ge i listed.size with h | h
           ·exact h
           ·rw [Array.getD_eq_getD_getElem?,Array.getElem?_eq_none h] at hun;simp at hun
          omega
         rw [Array.getD_eq_getD_getElem?,Array.getElem?_eq_getElem hsz] at this hg;simp at this hg;rw [this] at hg;cases hg
      rw [h0] at hrd;cases hrd
   ·obtain ⟨⟨i',e⟩,hmem,rfl⟩:=List.mem_map.1 (hready i hi);simp only at hi ⊢;obtain ⟨l1,l2,rfl⟩:=List.append_of_mem hmem;obtain ⟨_,oi,hoi,_⟩:=mem_ready.1 hi;have hun:∀j,j∈(l1++(i',e)::l2).map (·.1)->listed.getD j false=false:=fun j hj=>by
     obtain ⟨h1,h2⟩:=(hL j).2 hj;rcases Nat.lt_or_ge j listed.size with h | h
     ·rw [Array.getD_eq_getD_getElem?,Array.getElem?_eq_getElem h] at h1 ⊢;simpa using h1
     ·rw [Array.getD_eq_getD_getElem?,Array.getElem?_eq_none h] at h1;simp at h1
    have hall:∀j ej,(j,ej)∈l1->∃oj,ops[j]? = some oj/\oj.apart ops oi=true/\U1 ej e=true:=fun j ej hj=>by
     have hpw:=(List.pairwise_append.1 hchk).2.2 (j,ej) hj (i',e) List.mem_cons_self;rcases hpw with hanc | ⟨ox,oy,h1,h2,h3,h4⟩
     ·have:=vO hC _ _ _ (uD hi) hanc;rw [hun j (List.mem_map.2 ⟨_,List.mem_append_left _ hj,rfl⟩)] at this;cases this
     ·simp only at h1 h2;rw [hoi] at h2;cases h2;exact ⟨ox,h1,h3,h4⟩
    obtain ⟨g1,g2⟩:=bubble hoi l1 l2 s s' hall hR;refine Ud hF fn hq hdp hS hA g1 fun E' a' w' hs ha => ?_;refine Yn hF fn hq hdp hback hQ n (l1++l2) _ E' a' w' _ (by simp at hn ⊢;omega) (hC.set hi) (fun j => ?_) ?_ ?_ g2 hs ha
    ·have hnd:∀k,k∈(l1++l2).map (·.1)->k≠i':=fun k hk e0=>by
      subst e0;rw [List.map_append,List.map_cons] at hsort;rw [List.map_append] at hk;rcases List.mem_append.1 hk with hk | hk
      ·have:=(List.pairwise_append.1 hsort).2.2 k hk k List.mem_cons_self;omega
      ·have:=(List.pairwise_cons.1 (List.pairwise_append.1 hsort).2.1).1 k hk;omega
     by_cases hji:i'=j
     ·subst hji;constructor
      ·rintro ⟨h1,h2⟩;have hsz:i'<listed.size:=by
        rcases Nat.lt_or_ge i' listed.size with h | h
        ·exact h
        ·have:=(mem_ready.1 hi).1;rw [Array.getD_eq_getD_getElem?,Array.getElem?_eq_none h] at this;simp at this
       rw [Array.getD_eq_getD_getElem?,Array.getElem?_setIfInBounds_self_of_lt hsz] at h1;simp at h1
      ·intro h;exact (hnd _ h rfl).elim
     ·rw [getD_set_ne true hji];rw [hL j];simp only [List.map_append,List.map_cons,List.mem_append,List.mem_cons];constructor
      ·rintro (h | h | h)
       ·exact .inl h
       ·exact (hji h.symm).elim
       ·exact .inr h
      ·rintro (h | h)
       ·exact .inl h
       ·exact .inr (.inr h)
    ·rw [List.map_append] at hsort ⊢;rw [List.map_cons] at hsort;obtain ⟨p1,p2,p3⟩:=List.pairwise_append.1 hsort;exact List.pairwise_append.2 ⟨p1,(List.pairwise_cons.1 p2).2,fun x hx y hy=>p3 x hx y (List.mem_cons_of_mem _ hy)⟩
    ·obtain ⟨p1,p2,p3⟩:=List.pairwise_append.1 hchk;exact List.pairwise_append.2 ⟨p1,(List.pairwise_cons.1 p2).2,fun x hx y hy=>p3 x hx y (List.mem_cons_of_mem _ hy)⟩
end
def Na (df:List Deferred) (F:Fence) (n:Nat) (P:Program) (GL:Nat->Option (List DV)) (N:Nat) (hp0:Nat->Option AO) (c:Code) (Q:Exit->S->Prop) (s:S):Prop :=
 ∀(E0:En) (w0:World) (E:En) (a:Act) (w:World),E0.hp=hp0->nN df GL N E a w s->dK E0 w0 E w->c.wpIn F n P (fun x a' w'=>∃s' E',Q x s'/\nN df GL N E' a' w' s'/\dK E0 w0 E' w') a w
section
variable {df:List Deferred} {F:Fence} {n:Nat} {P:Program} {GL:Nat->Option (List DV)} {q:Nat->Bool} {N:Nat} {hp0:Nat->Option AO} {Q Q':Exit->S->Prop} {s:S}
theorem Na.mono {c:Code} (h:Na df F n P GL N hp0 c Q s) (hq:∀e s,Q e s->Q' e s):Na df F n P GL N hp0 c Q' s :=
 fun E0 w0 E a w h0 hS hA=>wpIn_mono (h E0 w0 E a w h0 hS hA) fun e a w ⟨s',E',h1,h2⟩=>⟨s',E',hq _ _ h1,h2⟩
theorem adX (h:Q .normal s):Na df F n P GL N hp0 .skip Q s:=fun E0 w0 E a w h0 hS hA=>wpIn_skip ⟨s,E,h,hS,hA⟩
theorem adY {id:Nat} (h:Q (.exit id) s):Na df F n P GL N hp0 (.exit id) Q s:=fun E0 w0 E a w h0 hS hA=>wpIn_exit ⟨s,E,h,hS,hA⟩
theorem agI (h:Q .ret s):Na df F n P GL N hp0 .ret Q s:=fun E0 w0 E a w h0 hS hA=>wpIn_ret ⟨s,E,h,hS,hA⟩
theorem agJ {x y:Code} (h:Na df F n P GL N hp0 x (Zt (Na df F n P GL N hp0 y Q) Q) s):Na df F n P GL N hp0 (.seq x y) Q s:=fun E0 w0 E a w h0 hS hA=>by
 refine wpIn_seq (wpIn_mono (h E0 w0 E a w h0 hS hA) fun e a' w' ⟨s',E',h1,h2,h3⟩ => ?_);cases e<;>first | exact h1 E0 w0 E' a' w' h0 h2 h3 | exact ⟨s',E',h1,h2,h3⟩
theorem adZ {c:Operand} {x y:Code} {b:Bool} (hc:s.ev GL c = .d (.val (.bool b))) (h1:b=true->Na df F n P GL N hp0 x Q s) (h2:b=false->Na df F n P GL N hp0 y Q s):Na df F n P GL N hp0 (.cond c x y) Q s:=fun E0 w0 E a w h0 hS hA=>by
 have hr:=hS.ev c;rw [hc] at hr;refine wpIn_cond (bG hr) ?_;cases b with
 | true=>exact h1 rfl E0 w0 E a w h0 hS hA
 | false=>exact h2 rfl E0 w0 E a w h0 hS hA
theorem agK {c:Operand} {x y:Code} (hc:s.ev GL c = .ab) (h1:Na df F n P GL N hp0 x Q s) (h2:Na df F n P GL N hp0 y Q s):Na df F n P GL N hp0 (.cond c x y) Q s:=fun E0 w0 E a w h0 hS hA=>by
 have hr:=hS.ev c;rw [hc,Rel] at hr;obtain ⟨b,hb⟩:=hr;refine wpIn_cond hb ?_;cases b with
 | true=>exact h1 E0 w0 E a w h0 hS hA
 | false=>exact h2 E0 w0 E a w h0 hS hA
theorem aal {id:Nat} {c:Code} (h:Na df F n P GL N hp0 c (RG id Q) s):Na df F n P GL N hp0 (.block id c) Q s:=fun E0 w0 E a w h0 hS hA=>by
 refine wpIn_block (wpIn_mono (h E0 w0 E a w h0 hS hA) fun e a' w' ⟨s',E',h1,h2,h3⟩ => ?_);cases e with
 | exit i =>
   simp only [RG,Exit.inBlock] at h1 ⊢;by_cases hi:i=id
   ·rw [if_pos hi] at h1 ⊢;exact ⟨s',E',h1,h2,h3⟩
   ·rw [if_neg hi] at h1 ⊢;exact ⟨s',E',h1,h2,h3⟩
 | _=>exact ⟨s',E',h1,h2,h3⟩
end
section
variable {df:List Deferred} {F:Fence} {n:Nat} {P:Program} {GL:Nat->Option (List DV)} {q:Nat->Bool} {N:Nat} {ops:Array Oper} {draw:Bool} {anc:List (List Nat)} {hp0:Nat->Option AO}
theorem Wh (hF:Io P F) (hq:Ny P q) (hdp:30<=P.depth) (hm:P.follows .mixedOrders=true) {id:Nat} {Q:Exit->S->Prop} {s:SL} (hback:draw=true->Ht ops=true) (hanc:draw=true->anc=uz ops ops.size) {C:Po} (hC:∀f args rds v us hp,C.D f args rds v us hp->DX P GL f args rds v us hp) {K:SL->Prop} (hK:∀s',K s'->Q .normal s'.S)
 (h:MW C (aX P) GL q N (DT id) ops draw anc K (List.range ops.size) s []):Na df F n P GL N hp0 (.region id ops draw) Q s.S:=fun E0 w0 E a w h0 hS hA=>by
 obtain ⟨L,s',g1,g2,g3,g4,g5⟩:=zF hanc hC _ _ _ h;have hQ:∀E' a' w',nN df GL N E' a' w' s'.S->dK E0 w0 E' w'->(fun (x:Exit) (a':Act) (w':World)=>∃s' E',Q x s'/\nN df GL N E' a' w' s'/\dK E0 w0 E' w') .normal a' w':=fun E' a' w' h1 h2=>⟨s'.S,E',hK _ g3,h1,h2⟩
 cases draw with
 | false =>
   refine wpIn_region ?_;rw [<-g1];exact Ym hF n (P:=P) (Q:=fun (x:Exit) (a':Act) (w':World)=>∃s' E',Q x s'/\nN df GL N E' a' w' s'/\dK E0 w0 E' w') hq hdp hQ L E a w s.S g2 hS hA
 | true =>
   refine wpIn_region_any hm ?_;have hlen:L.length=ops.size:=by
    have:=congrArg List.length g1;simpa using this
   have:=Yn hF n (P:=P) (Q:=fun (x:Exit) (a':Act) (w':World)=>∃s' E',Q x s'/\nN df GL N E' a' w' s'/\dK E0 w0 E' w') hq hdp (hback rfl) hQ ops.size L (Array.replicate ops.size false) E a {w with drawn:=w.drawn+1} s.S hlen
    (fun j hj=>by
      exfalso;rw [Array.getD_eq_getD_getElem?] at hj;rcases Nat.lt_or_ge j ops.size with hlt | hge
      ·rw [Array.getElem?_replicate,if_pos hlt] at hj;simp at hj
      ·rw [Array.getElem?_replicate,if_neg (by omega)] at hj;simp at hj)
    (fun i=>by
      rw [g1,List.mem_range];constructor
      ·exact fun h=>h.2
      ·intro hi;refine ⟨?_,hi⟩;rw [Array.getD_eq_getD_getElem?,Array.getElem?_replicate,if_pos hi];rfl)
    (by rw [g1];exact List.pairwise_lt_range) (g5 rfl) g2 hS.drew hA.drew
   exact this
def nsB:Code->Bool
 | .seq a b=>nsB a&&nsB b
 | .cond _ t e=>nsB t&&nsB e
 | .block _ c=>nsB c
 | .skip=>true
 | .region _ _ _=>true
 | .exit _=>true
 | .ret=>true
 | _=>false
end
section
variable {df:List Deferred} {F:Fence} {P:Program} {T:Ty} {GL:Nat->Option (List DV)} {q:Nat->Bool} {N:Nat} {hp0:Nat->Option AO}
theorem iW (hF:Io P F) (n:Nat) (hq:Ny P q) (hdp:30<=P.depth) (hm:P.follows .mixedOrders=true) (hT:aX P=T):∀(c:Code) (Q:Exit->SL->Prop) (s:SL),nsB c=true->kR (yO P GL N hp0) T GL q N c Q s->Na df F n P GL N hp0 c (LQ Q) s.S
 | .skip,Q,s,_,h=>adX ⟨s,rfl,h⟩
 | .region id ops draw,Q,s,_,h=>by
   rw [kR] at h;subst hT;split at h
   ·rename_i hb;exact Wh hF hq hdp hm (AB hb) (fun hd=>by rw [hd];rfl) (fun f args rds v us hp h=>h) (fun s' hs=>⟨s',rfl,hs⟩) h
   ·exact h.elim
 | .seq a b,Q,s,hn,h=>by
   rw [kR] at h;rw [nsB,Bool.and_eq_true] at hn;refine agJ (Na.mono (iW hF n hq hdp hm hT a _ s hn.1 h) fun e s' ⟨sl,h1,h2⟩ => ?_);subst h1;cases e with
   | normal=>exact iW hF n hq hdp hm hT b Q sl hn.2 h2
   | _=>exact ⟨sl,rfl,h2⟩
 | .cond c t e,Q,s,hn,h=>by
   rw [kR] at h;rw [nsB,Bool.and_eq_true] at hn;split at h
   ·rename_i b hb;refine adZ (by rw [SL.ev_S];exact hb) (fun hb => ?_) (fun hb => ?_)
    ·subst hb;exact iW hF n hq hdp hm hT t Q s hn.1 h
    ·subst hb;exact iW hF n hq hdp hm hT e Q s hn.2 h
   ·rename_i hb;exact agK (by rw [SL.ev_S];exact hb) (iW hF n hq hdp hm hT t Q s hn.1 h.1) (iW hF n hq hdp hm hT e Q s hn.2 h.2)
   ·exact h.elim
 | .block id c,Q,s,hn,h=>by
   rw [kR] at h;refine aal (Na.mono (iW hF n hq hdp hm hT c _ s hn h) fun e s' ⟨sl,h1,h2⟩ => ?_);subst h1;cases e with
   | exit i =>
     simp only [RG] at h2 ⊢;by_cases hi:i=id
     ·rw [if_pos hi] at h2 ⊢;exact ⟨sl,rfl,h2⟩
     ·rw [if_neg hi] at h2 ⊢;exact ⟨sl,rfl,h2⟩
   | _=>exact ⟨sl,rfl,h2⟩
 | .exit id,Q,s,_,h=>adY ⟨s,rfl,h⟩
 | .ret,Q,s,_,h=>agI ⟨s,rfl,h⟩
 | .label l,Q,s,hn,h=>by cases hn
 | .loop c,Q,s,hn,h=>by cases hn
 | .rangeFunc _ _ _ _,Q,s,_,h=>h.elim
 | .scope c,Q,s,hn,h=>by cases hn
 | .goto _,Q,s,_,h=>h.elim
 | .refuse _,Q,s,_,h=>h.elim
end
end Go.Proofs.YtkpijdndakljjaaGreat

namespace Go.Proofs.YtkpijdndakljjaaGreat
open Go.RowKit Go.Shelf
attribute [local go_sem] Oper.semAt_some
def sJ (at0 first step:Int):Nat->Int
 | 0=>at0
 | k+1=>wrap64 (sJ at0 first step k+wrap64 (1000*(if k=0 then first else step)))
set_option maxRecDepth 100000 in
set_option maxHeartbeats 1000000 in
theorem agL (m l ba bn br:Nat) (at0 first step:Int) (n:Nat) (hn:(n:Int)<=4000000000000000000) (I:Nat->World->Prop)
 (hc:∀k W,I k W->W.cell? ⟨ba,0,none⟩=some (.int .i64 at0)/\W.cell? ⟨bn,0,none⟩=some (.int .i64 n)/\W.cell? ⟨br,2,none⟩=some (.int .i64 first)/\W.cell? ⟨br,3,none⟩=some (.int .i64 step))
 (hY:∀k W,k<n->I k W->YieldAt Fence.wide (m-1) Tryz.prog l #[.int .i64 k,.int .i64 (sJ at0 first step k)] W fun e W'=>e = .returned (.bool true)/\I (k+1) W')
 (W:World) (h0:I 0 W):CallsIn Fence.wide m Tryz.prog 94 #[.func (.yield l) #[] #[],.pointer (some ⟨ba,0,none⟩),.pointer (some ⟨bn,0,none⟩),.pointer (some ⟨br,0,none⟩)] W fun e W'=>(∃v,e = .returned v)/\I n W':=by
 refine callsIn_of_wp Tryz.func94 rfl trivial ?_ rfl;simp only [Tryz.ntmps94,List.size_toArray,List.length_cons,List.length_nil,Nat.reduceAdd,Nat.reduceSub,Array.replicate_succ,Array.replicate_zero,List.push_toArray,List.append_toArray,List.nil_append,List.cons_append];obtain ⟨c1,c2,c3,c4⟩:=hc 0 W h0
 gi_wp2
 gi_loopw [5,9] (fun p5 p9 wr=>∃k:Nat,p5 = .int .i64 (sJ at0 first step k)/\p9 = .int .i64 k/\k<=n/\I k wr)
  (fun p5 p9 wr=>n-(intOf p9).toNat)
 case atStart =>
  exact ⟨0,rfl,rfl,Nat.zero_le _,h0⟩
 case round =>
  obtain ⟨k,rfl,rfl,hk,hI⟩:=hrel;obtain ⟨c1,c2,c3,c4⟩:=hc k wr hI;by_cases hlt:k<n
  ·have hlt':(k:Int)<(n:Int):=by omega
   obtain ⟨fn,tmps,assign,body,hy,hR⟩:=hY k wr hlt hI
   gi_wp2
   refine ⟨fun g=>(by cases g),hR.mono ?_⟩;rintro e W3 ⟨rfl,hI3⟩;obtain ⟨d1,d2,d3,d4⟩:=hc (k+1) W3 hI3
   gi_wp2
   ·rename_i hb;have hk0:k=0:=by simpa using hb
    exact ⟨⟨k+1,by rw [sJ,if_pos hk0],rfl,by omega,hI3⟩,by simp only [intOf];omega⟩
   ·rename_i hb;have hk0:¬k=0:=by simpa using hb
    exact ⟨⟨k+1,by rw [sJ,if_neg hk0],rfl,by omega,hI3⟩,by simp only [intOf];omega⟩
  ·have hge:(n:Int)<=(k:Int):=by omega
   gi_wp2
   go_end0
   exact ⟨⟨_,rfl⟩,by rw [show n=k from by omega];exact hI⟩
end Go.Proofs.YtkpijdndakljjaaGreat

namespace Go.Proofs.YtkpijdndakljjaaGreat
open Go.RowKit
set_option maxHeartbeats 4000000
set_option maxRecDepth 10000
def nest:List Code->Code->Code
 | [],c=>c
 | x::xs,c => .seq x (nest xs c)
def spine:Nat->Code->List Code×Code
 | n+1,.seq a b=>(a::(spine n b).1,(spine n b).2)
 | _,c=>([],c)
theorem Le:∀(n:Nat) (c:Code),nest (spine n c).1 (spine n c).2=c
 | 0,c=>by cases c<;>rfl
 | n+1,.seq a b=>by
   show Code.seq a (nest (spine n b).1 (spine n b).2)=_;rw [Le n b]
 | _+1,.skip=>rfl
 | _+1,.region _ _ _=>rfl
 | _+1,.cond _ _ _=>rfl
 | _+1,.block _ _=>rfl
 | _+1,.loop _=>rfl
 | _+1,.exit _=>rfl
 | _+1,.ret=>rfl
 | _+1,.label _=>rfl
 | _+1,.goto _=>rfl
 | _+1,.scope _=>rfl
 | _+1,.refuse _=>rfl
 | _+1,.rangeFunc _ _ _ _=>rfl
def akt (n:Nat) (c:Code):List Code:=(spine n c).1++(match (spine n c).2 with | .seq (.seq y _) _=>[y] | _=>[])
section
variable (p:Pr) (C:Po) (T:Ty) (GL:Nat->Option (List DV)) (q:Nat->Bool) (N:Nat) (Z:SL->Prop)
def mJ:List Code->(Exit->SL->Prop)->SL->Prop
 | [],_,s=>Z s
 | x::xs,Q,s=>lC p C T GL q N x (Zt (fun s'=>mJ xs Q s') Q) s
end
section
variable {P:Program} {L:List (List (Option TI))} {cs:List Nat} {N:Nat} {hp0:Nat->Option AO}
theorem EG (K:Facts P L cs) {Z:SL->Prop} {Q:Exit->SL->Prop} {E0:En} {w0:World} (h0:E0.hp=hp0) {Qc:Exit->Act->World->Prop} {rest:Code}
 (hZ:∀s' E a w,Z s'->sF iV N E a w s'.S->dK E0 w0 E w->rest.wp P Qc a w) (hQ:∀e s' E a w,e ≠ .normal->Q e s'->sF iV N E a w s'.S->dK E0 w0 E w->Qc e a w) :
 ∀(xs:List Code) (s:SL),mJ real (yO P iV N hp0) (vw (aX P) L) iV (Zx cs) N Z xs Q s->∀E a w,sF iV N E a w s.S->dK E0 w0 E w->(nest xs rest).wp P Qc a w
 | [],s,h,E,a,w,hS,hA=>hZ s E a w h hS hA
 | x::xs,s,h,E,a,w,hS,hA=>by
   unfold mJ at h;rw [iL] at h;refine wp_seq (wp_mono (jc K.hq K.hdp K.hm K.hT x _ s h E0 w0 E a w h0 hS hA) fun e a' w' ⟨s',E',⟨sl,h1,h2⟩,h3,h4⟩ => ?_);subst h1;cases e with
   | normal=>exact EG K h0 hZ hQ xs sl h2 E' a' w' h3 h4
   | _=>exact hQ _ sl E' a' w' (by simp) h2 h3 h4
end
abbrev UP:U := .pair (.pair (.int .u8) (.pair (.int .i64) (.int .i64))) (.pair (.int .i64) (.int .i64))
abbrev UR:U := .pair .str (.pair (.int .i64) (.pair (.int .i64) (.pair (.int .i64) (.list UP))))
abbrev tJ:=(Int×(Int×Int))×(Int×Int)
abbrev Ra:=List UInt8×(Int×(Int×(Int×List tJ)))
section
variable {rd:Nat->Option AO}
theorem yE {rs:List Ra} {fr:Int} {x:Bool} {cells:List DV} {n:Nat} (h:bC (rs,fr)=some x) (hc:aU UR rs=cells) (hn:rs.length=n):∃c:Unit,True/\Does Tryz.prog iV 16 [.agg [.d (.dl cells n none),.d (.val (.int .i64 fr))]] [] (.d (.val (.bool x))) [] rd:=by
 subst hc hn;exact ⟨(),trivial,uf (X6.2 (rs,fr) x h) rfl⟩
theorem ng {a b c:Int} {x:Bool} (h:bf (a,(b,c))=some x):∃c':Unit,True/\Does Tryz.prog iV 37 [.d (.val (.int .i64 a)),.d (.val (.int .i64 b)),.d (.val (.int .i64 c))] [] (.d (.val (.bool x))) [] rd :=
 ⟨(),trivial,uf (ait.2 (a,(b,c)) x h) rfl⟩
theorem Bq {a b x:Int} (h:cZ (a,b)=some x):∃c':Unit,True/\Does Tryz.prog iV 50 [.d (.val (.int .i64 a)),.d (.val (.int .i64 b))] [] (.d (.val (.int .i64 x))) [] rd :=
 ⟨(),trivial,uf (TT.2 (a,b) x h) rfl⟩
theorem Wi {rs:List Ra} {fr:Int} {num:List UInt8} {x:Int×Bool} {cells:List DV} {n:Nat} {nb:ByteArray} (h:iy ((rs,fr),num)=some x) (hc:aU UR rs=cells) (hn:rs.length=n) (hb:(⟨num.toArray⟩:ByteArray)=nb):∃c:Unit,True/\Does Tryz.prog iV 67 [.agg [.d (.dl cells n none),.d (.val (.int .i64 fr))],.d (.val (.string nb))] [] (.tup [.d (.val (.int .i64 x.1)),.d (.val (.bool x.2))]) [] rd:=by
 subst hc hn hb;exact ⟨(),trivial,uf (aiu.2 ((rs,fr),num) x h) rfl⟩
theorem Ue {R:Ra} {fr se x rc rf ji:Int} {rb:ByteArray} {cells:List DV} {n:Nat} (h:jL (R,(fr,se))=some x) (hrb:(⟨R.1.toArray⟩:ByteArray)=rb) (hrc:R.2.1=rc) (hrf:R.2.2.1=rf) (hrst:R.2.2.2.1=ji) (hc:aU UP R.2.2.2.2=cells) (hn:R.2.2.2.2.length=n):∃c:Unit,True/\Does Tryz.prog iV 68 [.agg [.d (.val (.string rb)),.d (.val (.int .i64 rc)),.d (.val (.int .i64 rf)),.d (.val (.int .i64 ji)),.d (.dl cells n none)],.d (.val (.int .i64 fr)),.d (.val (.int .i64 se))] [] (.d (.val (.int .i64 x))) [] rd:=by
 subst hrb hrc hrf hrst hc hn;exact ⟨(),trivial,uf (anI.2 (R,(fr,se)) x h) rfl⟩
theorem O6 {l:List tJ} {a x:Int} {cells:List DV} {n:Nat} (h:fP (l,a)=some x) (hc:aU UP l=cells) (hn:l.length=n):∃c:Unit,True/\Does Tryz.prog iV 70 [.d (.dl cells n none),.d (.val (.int .i64 a))] [] (.d (.val (.int .i64 x))) [] rd:=by
 subst hc hn;exact ⟨(),trivial,uf (aiv.2 (l,a) x h) rfl⟩
end
theorem ad1 {α:Type} {l:List α} {i:Nat} (d:α) (h1:i<l.length):l.getD i d=l[i]:=by rw [List.getD_eq_getElem?_getD,List.getElem?_eq_getElem h1];rfl
theorem anK {rb:ByteArray} {rc rf ji at0 np:Int} {pcells:List DV} {pn:Nat}:fB Tryz.prog iV 69 [.agg [.d (.val (.string rb)),.d (.val (.int .i64 rc)),.d (.val (.int .i64 rf)),.d (.val (.int .i64 ji)),.d (.dl pcells pn none)],.d (.val (.int .i64 at0)),.d (.val (.int .i64 np))] []
 (.clo 94 [.ptr 7 0,.ptr 8 0,.ptr 9 0]) [(7,.mix [.d (.val (.int .i64 at0))]),(8,.mix [.d (.val (.int .i64 np))]),(9,.mix [.d (.val (.string rb)),.d (.val (.int .i64 rc)),.d (.val (.int .i64 rf)),.d (.val (.int .i64 ji)),.d (.dl pcells pn none)])]:=by
 refine mP KK (fn:=Tryz.f69) Tryz.func69 rfl (by show 3<=_;decide) ?_;intro C F p hC hF hp
 conv=>cbv
 exact pI [(7,1001),(8,1002),(9,1000)] rfl rfl ⟨⟨rfl,rfl,rfl⟩,⟨rfl,rfl,rfl⟩,⟨rfl,rfl,rfl⟩,trivial⟩ rfl rfl
theorem anL {rb:ByteArray} {rc rf ji at0 np:Int} {pcells:List DV} {pn:Nat} {rd:Nat->Option AO} (h7:rd 7=none) (h8:rd 8=none) (h9:rd 9=none):∃c:Unit,True/\Does Tryz.prog iV 69 [.agg [.d (.val (.string rb)),.d (.val (.int .i64 rc)),.d (.val (.int .i64 rf)),.d (.val (.int .i64 ji)),.d (.dl pcells pn none)],.d (.val (.int .i64 at0)),.d (.val (.int .i64 np))] [7,8,9]
 (.clo 94 [.ptr 7 0,.ptr 8 0,.ptr 9 0]) [(7,.mix [.d (.val (.int .i64 at0))]),(8,.mix [.d (.val (.int .i64 np))]),(9,.mix [.d (.val (.string rb)),.d (.val (.int .i64 rc)),.d (.val (.int .i64 rf)),.d (.val (.int .i64 ji)),.d (.dl pcells pn none)])] rd :=
 ⟨(),trivial,qI anK (fun x hx=>by cases hx) rfl rfl (fun x hx=>by
   rcases List.mem_cons.1 hx with rfl | hx
   ·exact ⟨by simp,.inl h7⟩
   ·rcases List.mem_cons.1 hx with rfl | hx
    ·exact ⟨by simp,.inl h8⟩
    ·rcases List.mem_cons.1 hx with rfl | hx
     ·exact ⟨by simp,.inl h9⟩
     ·cases hx) rfl⟩
def Gs (rb:ByteArray) (rc rf ji at0 np:Int) (pcells:List DV) (pn:Nat) (sum:Int):SL :=
 ⟨87,[(13,.ptr 5 0),(15,.ptr 6 0),(65,.clo 94 [.ptr 7 0,.ptr 8 0,.ptr 9 0])],
   [(5,.mix [.d (.val (.string rb)),.d (.val (.int .i64 rc)),.d (.val (.int .i64 rf)),.d (.val (.int .i64 ji)),.d (.dl pcells pn none)]),(6,.mix [.d (.val (.int .i64 sum))]),(7,.mix [.d (.val (.int .i64 at0))]),(8,.mix [.d (.val (.int .i64 np))]),(9,.mix [.d (.val (.string rb)),.d (.val (.int .i64 rc)),.d (.val (.int .i64 rf)),.d (.val (.int .i64 ji)),.d (.dl pcells pn none)])]⟩
theorem aku {rs:List Ra} {fr:Int} {num:List UInt8} {a b:Int} {cells:List DV} {n:Nat} {nb:ByteArray} (hcr:aU UR rs=cells) (hnr:rs.length=n) (hnb:(⟨num.toArray⟩:ByteArray)=nb) (hV:bC (rs,fr)=some true)
 (h1:bf (a,(0,281474976710656))=some true) (h2:bf (b,(a,281474976710656))=some true) {se:Int} (h3:cZ (a,b)=some se) (h4:se<=1000000) {ix:Int} (hF:iy ((rs,fr),num)=some (ix,true)) {i:Nat} (hix:ix=(i:Int)) (hin:i<n) {R:Ra} (hR:rs.getD i ([],(0,(0,(0,[]))))=R) {rb:ByteArray} {rc rf ji:Int} {pl:List tJ} {pcells:List DV} {pn:Nat} (hrb:(⟨R.1.toArray⟩:ByteArray)=rb) (hrc:R.2.1=rc) (hrf:R.2.2.1=rf) (hrst:R.2.2.2.1=ji) (hcp:aU UP R.2.2.2.2=pcells) (hnp:R.2.2.2.2.length=pn)
 {np:Int} (hPi:jL (R,(fr,se))=some np) (hnp0:np≠0) {at0:Int} (hat:at0=IntKind.wrap .i64 (a+IntKind.wrap .i64 (1000*fr)))
 {C:Po} {F:Ty} {p:Pr} (hC:C=yO Tryz.prog iV 87 (aV [])) (hF':F=aX Tryz.prog) (hp:p=real) :
 mJ p C (vw F uM) iV (Zx wZ) 87 (fun s=>uG iV 87 (aV []) s.S (Gs rb rc rf ji at0 np pcells pn rc).S) (akt 11 (Tryz.f51.body.getD .skip)) (fun _ _=>False) ⟨87,jw 0 [.agg [.d (.dl cells n none),.d (.val (.int .i64 fr))],.d (.val (.string nb)),.d (.val (.int .i64 a)),.d (.val (.int .i64 b))],[]⟩:=by
 have hemp:p.emp cells=false:=PI hp (by rw [<-hcr,bJ,hnr];show 0<n*5;omega);have hrow:p.cells cells (p.nm i 5) 5=some [.d (.val (.string rb)),.d (.val (.int .i64 rc)),.d (.val (.int .i64 rf)),.d (.val (.int .i64 ji)),.d (.dl pcells pn none)]:=by
  have hi:i<rs.length:=by omega
  rw [JK hp (f:=gZ UR) (s:=5) (fun x=>bZ UR x) hi hcr,<-ad1 ([],(0,(0,(0,[])))) hi,hR,<-hrb,<-hrc,<-hrf,<-hrst,<-hcp,<-hnp];rfl
 have eat:p.ar .add .i64 a (p.ar .mul .i64 1000 fr)=at0:=by rw [hp];exact hat.symm
 conv=>cbv
 refine iE hC (by kernel_rfl) (yE hV hcr hnr) ?_;rintro _ _;refine ⟨by decide_cbv,?_⟩
 conv=>cbv
 refine iE hC (by kernel_rfl) (ng (by assumption)) ?_;rintro _ _;refine ⟨by decide_cbv,?_⟩
 conv=>cbv
 refine iE hC (by kernel_rfl) (ng (by assumption)) ?_;rintro _ _;refine ⟨by decide_cbv,?_⟩
 conv=>cbv
 refine iE hC (by kernel_rfl) (Bq (by assumption)) ?_;rintro _ _;refine ⟨by decide_cbv,?_⟩
 conv=>cbv
 have e6:(p.cmp .gtr se 1000000)=false:=by rw [oP hp];exact decide_eq_false (by omega)
 simp only [e6];clear e6
 conv=>cbv
 refine iE hC (by kernel_rfl) (Wi hF hcr hnr hnb) ?_;rintro _ _;refine ⟨by decide_cbv,?_⟩
 conv=>cbv
 obtain ⟨j8,hj8,lj8,ej8⟩:=Xm (i:=ix) (n:=n) hp (by omega) (by omega);simp only [ej8]
 conv=>cbv
 simp only [hemp]
 conv=>cbv
 simp only [hemp]
 conv=>cbv
 obtain rfl:j8=i:=by omega
 simp only [hemp,hrow]
 conv=>cbv
 refine iE hC (by kernel_rfl) (Ue hPi hrb hrc hrf hrst hcp hnp) ?_;rintro _ _;refine ⟨by decide_cbv,?_⟩
 conv=>cbv
 have e11:(p.cmp .eql np 0)=false:=by rw [kV hp];exact decide_eq_false (by omega)
 simp only [e11];clear e11
 conv=>cbv
 obtain ⟨z12,ez12⟩:∃z,(p.ar .mul .i64 1000 fr)=z:=⟨_,rfl⟩
 simp only [ez12]
 conv=>cbv
 obtain ⟨z13,ez13⟩:∃z,(p.ar .add .i64 a z12)=z:=⟨_,rfl⟩
 simp only [ez13]
 conv=>cbv
 refine iE hC (by kernel_rfl) (anL rfl rfl rfl) ?_;rintro _ _;refine ⟨by decide_cbv,?_⟩
 conv=>cbv
 obtain rfl:z13=at0:=by rw [hat,<-ez13,<-ez12,hp];rfl
 exact FH (tm:=(Gs rb rc rf ji z13 np pcells pn rc).tm) (hp2:=(Gs rb rc rf ji z13 np pcells pn rc).hp) [(5,2105),(6,2502),(7,7),(8,8),(9,9)] rfl rfl ⟨⟨rfl,rfl,rfl⟩,⟨rfl,rfl,rfl⟩,⟨rfl,rfl,rfl⟩,⟨rfl,rfl,rfl⟩,⟨rfl,rfl,rfl⟩,trivial⟩ ⟨rfl,rfl,rfl,rfl,rfl,rfl,trivial⟩
set_option maxHeartbeats 4000000
set_option maxRecDepth 10000
def rfG:Code->Operand×Array Tmp×Code×Code
 | .seq (.seq _ (.block _ (.rangeFunc g ps a b))) _=>(g,ps,a,b)
 | _=>(.tmp 0,#[],.skip,.skip)
noncomputable abbrev BQ:Code:=Tryz.f51.body.getD .skip
noncomputable abbrev agM:Code:=(rfG (spine 11 BQ).2).2.2.1
noncomputable abbrev agN:Code:=(rfG (spine 11 BQ).2).2.2.2
def stA (rb:ByteArray) (rc rf ji at0 np:Int) (pcells:List DV) (pn:Nat) (sum k ak:Int):SL :=
 {Gs rb rc rf ji at0 np pcells pn sum with tm:=(67,.d (.val (.int .i64 ak)))::(66,.d (.val (.int .i64 k)))::(Gs rb rc rf ji at0 np pcells pn sum).tm}
def stB (rb:ByteArray) (rc rf ji at0 np:Int) (pcells:List DV) (pn:Nat) (sum k ak:Int):SL :=
 {Gs rb rc rf ji at0 np pcells pn sum with tm:=(17,.d (.val (.int .i64 ak)))::(16,.d (.val (.int .i64 k)))::(stA rb rc rf ji at0 np pcells pn sum k ak).tm}
theorem akv {rb:ByteArray} {rc rf ji at0 np:Int} {pcells:List DV} {pn:Nat} {sum k ak:Int} {C:Po} {F:Ty} {p:Pr} :
 lC p C (vw F uM) iV (Zx wZ) 87 agM (fun e s=>e = .normal/\s=stB rb rc rf ji at0 np pcells pn sum k ak) (stA rb rc rf ji at0 np pcells pn sum k ak):=by
 conv=>cbv
 trivial
theorem akw {rb:ByteArray} {rc rf ji at0 np:Int} {pl:List tJ} {pcells:List DV} {pn:Nat} {sum k ak:Int} (hcp:aU UP pl=pcells) (hnp:pl.length=pn) {j:Int} (hPa:fP (pl,ak)=some j) {i:Nat} (hj:j=(i:Int)) (hi:i<pn)
 {d1 d2 d3 d4 d5:Int} (hrow:pl.getD i ((0,(0,0)),(0,0))=((d1,(d2,d3)),(d4,d5))) (hk:0<=k) {hp0:Nat->Option AO} {sum':Int} (hs:sum'=IntKind.wrap .i64 (sum+(if k=0 then d4 else d5)))
 {C:Po} {F:Ty} {p:Pr} (hC:C=yO Tryz.prog iV 87 hp0) (hF':F=aX Tryz.prog) (hp:p=real) :
 lC p C (vw F uM) iV (Zx wZ) 87 agN (fun e s=>e = .normal/\uG iV 87 (aV []) ({s with tm:=(Gs rb rc rf ji at0 np pcells pn sum).tm}:SL).S (Gs rb rc rf ji at0 np pcells pn sum').S) (stB rb rc rf ji at0 np pcells pn sum k ak):=by
 have hemp:p.emp pcells=false:=PI hp (by rw [<-hcp,bJ,hnp];show 0<pn*5;omega);have hrw:p.cells pcells (p.nm i 5) 5=some [.d (.val (.int .u8 d1)),.d (.val (.int .i64 d2)),.d (.val (.int .i64 d3)),.d (.val (.int .i64 d4)),.d (.val (.int .i64 d5))]:=by
  have hi':i<pl.length:=by omega
  rw [JK hp (f:=gZ UP) (s:=5) (fun x=>bZ UP x) hi' hcp,<-ad1 ((0,(0,0)),(0,0)) hi',hrow];rfl
 by_cases hk0:k=0
 ·rw [if_pos hk0] at hs;have ead:p.ar .add .i64 sum d4=sum':=by rw [hp];exact hs.symm
  conv=>cbv
  refine iE hC (by kernel_rfl) (O6 hPa hcp hnp) ?_;rintro _ _;refine ⟨by decide_cbv,?_⟩
  conv=>cbv
  obtain ⟨j2,hj2,lj2,ej2⟩:=Xm (i:=j) (n:=pn) hp (by omega) (by omega);simp only [ej2]
  conv=>cbv
  simp only [hemp]
  conv=>cbv
  simp only [hemp]
  conv=>cbv
  obtain rfl:i=j2:=by omega
  simp only [hrw]
  conv=>cbv
  have e3:(p.cmp .eql k 0)=true:=by rw [kV hp];exact decide_eq_true (by omega)
  simp only [e3];clear e3
  conv=>cbv
  simp only [ead];exact FH (tm:=(Gs rb rc rf ji at0 np pcells pn sum').tm) (hp2:=(Gs rb rc rf ji at0 np pcells pn sum').hp) [(5,5),(6,6),(7,7),(8,8),(9,9)] rfl rfl ⟨⟨rfl,rfl,rfl⟩,⟨rfl,rfl,rfl⟩,⟨rfl,rfl,rfl⟩,⟨rfl,rfl,rfl⟩,⟨rfl,rfl,rfl⟩,trivial⟩ ⟨rfl,rfl,rfl,rfl,rfl,rfl,trivial⟩
 ·rw [if_neg hk0] at hs;have ead:p.ar .add .i64 sum d5=sum':=by rw [hp];exact hs.symm
  conv=>cbv
  refine iE hC (by kernel_rfl) (O6 hPa hcp hnp) ?_;rintro _ _;refine ⟨by decide_cbv,?_⟩
  conv=>cbv
  obtain ⟨j5,hj5,lj5,ej5⟩:=Xm (i:=j) (n:=pn) hp (by omega) (by omega);simp only [ej5]
  conv=>cbv
  simp only [hemp]
  conv=>cbv
  simp only [hemp]
  conv=>cbv
  obtain rfl:i=j5:=by omega
  simp only [hrw]
  conv=>cbv
  have e7:(p.cmp .eql k 0)=false:=by rw [kV hp];exact decide_eq_false (by omega)
  simp only [e7];clear e7
  conv=>cbv
  simp only [ead];exact FH (tm:=(Gs rb rc rf ji at0 np pcells pn sum').tm) (hp2:=(Gs rb rc rf ji at0 np pcells pn sum').hp) [(5,5),(6,6),(7,7),(8,8),(9,9)] rfl rfl ⟨⟨rfl,rfl,rfl⟩,⟨rfl,rfl,rfl⟩,⟨rfl,rfl,rfl⟩,⟨rfl,rfl,rfl⟩,⟨rfl,rfl,rfl⟩,trivial⟩ ⟨rfl,rfl,rfl,rfl,rfl,rfl,trivial⟩
noncomputable abbrev agO:Code:=match (spine 11 BQ).2 with | .seq _ c=>c | _ => .skip
theorem agP {rb:ByteArray} {rc rf ji at0 np:Int} {pcells:List DV} {pn:Nat} {sum:Int} {C:Po} {F:Ty} {p:Pr} :
 lC p C (vw F uM) iV (Zx wZ) 87 agO (afm (vw F uM) Tryz.f51 [] (.tup [.d (.val (.int .i64 sum)),.d (.val (.int .u8 0))]) []) (Gs rb rc rf ji at0 np pcells pn sum):=by
 conv=>cbv
 exact qH rfl
theorem agQ {rs:List Ra} {fr:Int} {num:List UInt8} {a b:Int} {cells:List DV} {n:Nat} {nb:ByteArray} (hcr:aU UR rs=cells) (hnr:rs.length=n) (hnb:(⟨num.toArray⟩:ByteArray)=nb) (hV:bC (rs,fr)=some false):fB Tryz.prog iV 51 [.agg [.d (.dl cells n none),.d (.val (.int .i64 fr))],.d (.val (.string nb)),.d (.val (.int .i64 a)),.d (.val (.int .i64 b))] [] (.tup [.d (.val (.int .i64 0)),.d (.val (.int .u8 2))]) []:=by
 refine mP KK (fn:=Tryz.f51) Tryz.func51 rfl (by show 4<=_;decide) ?_;intro C F p hC hF' hp
 conv=>cbv
 refine iE hC (by kernel_rfl) (yE hV hcr hnr) ?_;rintro _ _;refine ⟨by decide_cbv,?_⟩
 conv=>cbv
 exact qH rfl
theorem agR {rs:List Ra} {fr:Int} {num:List UInt8} {a b:Int} {cells:List DV} {n:Nat} {nb:ByteArray} (hcr:aU UR rs=cells) (hnr:rs.length=n) (hnb:(⟨num.toArray⟩:ByteArray)=nb) (hV:bC (rs,fr)=some true) (h1:bf (a,(0,281474976710656))=some false):fB Tryz.prog iV 51 [.agg [.d (.dl cells n none),.d (.val (.int .i64 fr))],.d (.val (.string nb)),.d (.val (.int .i64 a)),.d (.val (.int .i64 b))] [] (.tup [.d (.val (.int .i64 0)),.d (.val (.int .u8 3))]) []:=by
 refine mP KK (fn:=Tryz.f51) Tryz.func51 rfl (by show 4<=_;decide) ?_;intro C F p hC hF' hp
 conv=>cbv
 refine iE hC (by kernel_rfl) (yE hV hcr hnr) ?_;rintro _ _;refine ⟨by decide_cbv,?_⟩
 conv=>cbv
 refine iE hC (by kernel_rfl) (ng (by assumption)) ?_;rintro _ _;refine ⟨by decide_cbv,?_⟩
 conv=>cbv
 exact qH rfl
theorem agS {rs:List Ra} {fr:Int} {num:List UInt8} {a b:Int} {cells:List DV} {n:Nat} {nb:ByteArray} (hcr:aU UR rs=cells) (hnr:rs.length=n) (hnb:(⟨num.toArray⟩:ByteArray)=nb) (hV:bC (rs,fr)=some true) (h1:bf (a,(0,281474976710656))=some true) (h2:bf (b,(a,281474976710656))=some false):fB Tryz.prog iV 51 [.agg [.d (.dl cells n none),.d (.val (.int .i64 fr))],.d (.val (.string nb)),.d (.val (.int .i64 a)),.d (.val (.int .i64 b))] [] (.tup [.d (.val (.int .i64 0)),.d (.val (.int .u8 3))]) []:=by
 refine mP KK (fn:=Tryz.f51) Tryz.func51 rfl (by show 4<=_;decide) ?_;intro C F p hC hF' hp
 conv=>cbv
 refine iE hC (by kernel_rfl) (yE hV hcr hnr) ?_;rintro _ _;refine ⟨by decide_cbv,?_⟩
 conv=>cbv
 refine iE hC (by kernel_rfl) (ng (by assumption)) ?_;rintro _ _;refine ⟨by decide_cbv,?_⟩
 conv=>cbv
 refine iE hC (by kernel_rfl) (ng (by assumption)) ?_;rintro _ _;refine ⟨by decide_cbv,?_⟩
 conv=>cbv
 exact qH rfl
theorem agT {rs:List Ra} {fr:Int} {num:List UInt8} {a b:Int} {cells:List DV} {n:Nat} {nb:ByteArray} (hcr:aU UR rs=cells) (hnr:rs.length=n) (hnb:(⟨num.toArray⟩:ByteArray)=nb) (hV:bC (rs,fr)=some true) (h1:bf (a,(0,281474976710656))=some true) (h2:bf (b,(a,281474976710656))=some true) {se:Int} (h3:cZ (a,b)=some se) (h4:se > 1000000):fB Tryz.prog iV 51 [.agg [.d (.dl cells n none),.d (.val (.int .i64 fr))],.d (.val (.string nb)),.d (.val (.int .i64 a)),.d (.val (.int .i64 b))] [] (.tup [.d (.val (.int .i64 0)),.d (.val (.int .u8 4))]) []:=by
 refine mP KK (fn:=Tryz.f51) Tryz.func51 rfl (by show 4<=_;decide) ?_;intro C F p hC hF' hp
 conv=>cbv
 refine iE hC (by kernel_rfl) (yE hV hcr hnr) ?_;rintro _ _;refine ⟨by decide_cbv,?_⟩
 conv=>cbv
 refine iE hC (by kernel_rfl) (ng (by assumption)) ?_;rintro _ _;refine ⟨by decide_cbv,?_⟩
 conv=>cbv
 refine iE hC (by kernel_rfl) (ng (by assumption)) ?_;rintro _ _;refine ⟨by decide_cbv,?_⟩
 conv=>cbv
 refine iE hC (by kernel_rfl) (Bq (by assumption)) ?_;rintro _ _;refine ⟨by decide_cbv,?_⟩
 conv=>cbv
 have e18:(p.cmp .gtr se 1000000)=true:=by rw [oP hp];exact decide_eq_true (by omega)
 simp only [e18];clear e18
 conv=>cbv
 exact qH rfl
theorem agU {rs:List Ra} {fr:Int} {num:List UInt8} {a b:Int} {cells:List DV} {n:Nat} {nb:ByteArray} (hcr:aU UR rs=cells) (hnr:rs.length=n) (hnb:(⟨num.toArray⟩:ByteArray)=nb) (hV:bC (rs,fr)=some true) (h1:bf (a,(0,281474976710656))=some true) (h2:bf (b,(a,281474976710656))=some true) {se:Int} (h3:cZ (a,b)=some se) (h4:se<=1000000) {ix:Int} (hF:iy ((rs,fr),num)=some (ix,false)):fB Tryz.prog iV 51 [.agg [.d (.dl cells n none),.d (.val (.int .i64 fr))],.d (.val (.string nb)),.d (.val (.int .i64 a)),.d (.val (.int .i64 b))] [] (.tup [.d (.val (.int .i64 0)),.d (.val (.int .u8 8))]) []:=by
 refine mP KK (fn:=Tryz.f51) Tryz.func51 rfl (by show 4<=_;decide) ?_;intro C F p hC hF' hp
 conv=>cbv
 refine iE hC (by kernel_rfl) (yE hV hcr hnr) ?_;rintro _ _;refine ⟨by decide_cbv,?_⟩
 conv=>cbv
 refine iE hC (by kernel_rfl) (ng (by assumption)) ?_;rintro _ _;refine ⟨by decide_cbv,?_⟩
 conv=>cbv
 refine iE hC (by kernel_rfl) (ng (by assumption)) ?_;rintro _ _;refine ⟨by decide_cbv,?_⟩
 conv=>cbv
 refine iE hC (by kernel_rfl) (Bq (by assumption)) ?_;rintro _ _;refine ⟨by decide_cbv,?_⟩
 conv=>cbv
 have e24:(p.cmp .gtr se 1000000)=false:=by rw [oP hp];exact decide_eq_false (by omega)
 simp only [e24];clear e24
 conv=>cbv
 refine iE hC (by kernel_rfl) (Wi hF hcr hnr hnb) ?_;rintro _ _;refine ⟨by decide_cbv,?_⟩
 conv=>cbv
 exact qH rfl
theorem agV {rs:List Ra} {fr:Int} {num:List UInt8} {a b:Int} {cells:List DV} {n:Nat} {nb:ByteArray} (hcr:aU UR rs=cells) (hnr:rs.length=n) (hnb:(⟨num.toArray⟩:ByteArray)=nb) (hV:bC (rs,fr)=some true) (h1:bf (a,(0,281474976710656))=some true) (h2:bf (b,(a,281474976710656))=some true) {se:Int} (h3:cZ (a,b)=some se) (h4:se<=1000000) {ix:Int} (hF:iy ((rs,fr),num)=some (ix,true)) {i:Nat} (hix:ix=(i:Int)) (hin:i<n) {R:Ra} (hR:rs.getD i ([],(0,(0,(0,[]))))=R) {rb:ByteArray} {rc rf ji:Int} {pcells:List DV} {pn:Nat} (hrb:(⟨R.1.toArray⟩:ByteArray)=rb) (hrc:R.2.1=rc) (hrf:R.2.2.1=rf) (hrst:R.2.2.2.1=ji) (hcp:aU UP R.2.2.2.2=pcells) (hnp:R.2.2.2.2.length=pn)
 {np:Int} (hPi:jL (R,(fr,se))=some np) (hnp0:np=0):fB Tryz.prog iV 51 [.agg [.d (.dl cells n none),.d (.val (.int .i64 fr))],.d (.val (.string nb)),.d (.val (.int .i64 a)),.d (.val (.int .i64 b))] [] (.tup [.d (.val (.int .i64 0)),.d (.val (.int .u8 0))]) []:=by
 refine mP KK (fn:=Tryz.f51) Tryz.func51 rfl (by show 4<=_;decide) ?_;intro C F p hC hF' hp;have hemp:p.emp cells=false:=PI hp (by rw [<-hcr,bJ,hnr];show 0<n*5;omega);have hrow:p.cells cells (p.nm i 5) 5=some [.d (.val (.string rb)),.d (.val (.int .i64 rc)),.d (.val (.int .i64 rf)),.d (.val (.int .i64 ji)),.d (.dl pcells pn none)]:=by
  have hi:i<rs.length:=by omega
  rw [JK hp (f:=gZ UR) (s:=5) (fun x=>bZ UR x) hi hcr,<-ad1 ([],(0,(0,(0,[])))) hi,hR,<-hrb,<-hrc,<-hrf,<-hrst,<-hcp,<-hnp];rfl
 conv=>cbv
 refine iE hC (by kernel_rfl) (yE hV hcr hnr) ?_;rintro _ _;refine ⟨by decide_cbv,?_⟩
 conv=>cbv
 refine iE hC (by kernel_rfl) (ng (by assumption)) ?_;rintro _ _;refine ⟨by decide_cbv,?_⟩
 conv=>cbv
 refine iE hC (by kernel_rfl) (ng (by assumption)) ?_;rintro _ _;refine ⟨by decide_cbv,?_⟩
 conv=>cbv
 refine iE hC (by kernel_rfl) (Bq (by assumption)) ?_;rintro _ _;refine ⟨by decide_cbv,?_⟩
 conv=>cbv
 have e31:(p.cmp .gtr se 1000000)=false:=by rw [oP hp];exact decide_eq_false (by omega)
 simp only [e31];clear e31
 conv=>cbv
 refine iE hC (by kernel_rfl) (Wi hF hcr hnr hnb) ?_;rintro _ _;refine ⟨by decide_cbv,?_⟩
 conv=>cbv
 obtain ⟨j33,hj33,lj33,ej33⟩:=Xm (i:=ix) (n:=n) hp (by omega) (by omega);simp only [ej33]
 conv=>cbv
 simp only [hemp]
 conv=>cbv
 simp only [hemp]
 conv=>cbv
 obtain rfl:j33=i:=by omega
 simp only [hemp,hrow]
 conv=>cbv
 refine iE hC (by kernel_rfl) (Ue hPi hrb hrc hrf hrst hcp hnp) ?_;rintro _ _;refine ⟨by decide_cbv,?_⟩
 conv=>cbv
 have e35:(p.cmp .eql np 0)=true:=by rw [kV hp];exact decide_eq_true (by omega)
 simp only [e35];clear e35
 conv=>cbv
 exact qH rfl
set_option maxRecDepth 100000
theorem Yo {h h':Array Obj} {X:Nat->Prop} (hc:∀b o u,iQ h b o=some u->iQ h' b o=some u):∀(cells:List DV) (b o:Nat),fA h X cells b o->fA h' X cells b o
 | [],b,o,_=>by rw [fA];trivial
 | x::xs,b,o,hr=>by
   rw [fA] at hr ⊢;obtain ⟨⟨u,h1,h2⟩,h3⟩:=hr;exact ⟨⟨u,hc _ _ _ h1,dL.mono (fun b o u hx hu=>⟨hx,hc b o u hu⟩) x u h2⟩,Yo hc xs b (o+1) h3⟩
def NC (h:Array Obj) (k:Nat):Prop:=∃o,h[k]? = some o/\o.isCells=false/\o.isWalk=false
theorem Lh {N:Nat} {E0:En} {w0:World} {E:En} {a:Act} {w:World} {s:S} {w':World} (hS:sF iV N E a w s) (hA:dK E0 w0 E w) (h1:w'.os=w.os) (h2:w'.tape=w.tape) (h3:w'.output=w.output) (h4:w.heap.size<=w'.heap.size)
 (hb:∀k,k<w.heap.size->w'.heap[k]? = w.heap[k]? \/ (w0.heap.size<=k/\NC w.heap k)):sF iV N {E with h:=w'.heap} a w' s/\dK E0 w0 {E with h:=w'.heap} w'/\Ext E {E with h:=w'.heap}:=by
 have hE:E.h=w.heap:=hS.h.symm;have hc:∀b o u,iQ E.h b o=some u->iQ w'.heap b o=some u:=fun b o u hu=>by
  have hlt:=yZ hu;rw [hE] at hlt hu;rcases hb b hlt with e | ⟨_,o',ho,hn,_⟩
  ·unfold iQ at hu ⊢;rw [e];exact hu
  ·unfold iQ at hu;rw [ho] at hu;cases o'<;>first | (simp [Obj.isCells] at hn;done) | (cases hu;done)
 have ho:∀(b:Nat) (o:Obj),E.h[b]? = some o->(o.isCells=true\/o.isWalk=true)->w'.heap[b]? = some o:=fun b o hbo hk=>by
  rw [hE] at hbo;rcases hb b (Array.getElem?_eq_some_iff.1 hbo).1 with e | ⟨_,o',ho',k1,k2⟩
  ·rw [e];exact hbo
  ·rw [hbo] at ho';cases ho';rcases hk with k | k
   ·rw [k1] at k;cases k
   ·rw [k2] at k;cases k
 have hx:Ext E {E with h:=w'.heap}:=⟨fun b o u hx hu=>⟨hx,hc b o u hu⟩,fun r o h=>⟨o,h,o.like_refl,.inr rfl⟩⟩
 refine ⟨⟨rfl,hS.hp,⟨fun r o hr => ?_,hS.sim.inj,fun g cells hg=>by cases hg⟩,hS.n,hS.df,fun t=>Rel.ext hx _ _ (hS.tm t)⟩,⟨hA.ext.trans hx,?_⟩,hx⟩
 ·have:=hS.sim.ob r o hr;cases o with
  | data e s cs mt =>
    rcases this with ⟨q1,q2⟩ | ⟨b,cur,q1,q2,q3,q4,q5,q6⟩
    ·exact .inl ⟨q1,q2⟩
    ·exact .inr ⟨b,cur,q1,ho b _ q2 (.inl rfl),Yo hc _ _ _ q3,q4,q5,q6⟩
  | mix cs =>
    obtain ⟨b,cur,t,q1,q2,q3,q4⟩:=this;exact ⟨b,cur,t,q1,ho b _ q2 (.inl rfl),aW.ext hx _ _ q3,q4⟩
  | mp ks =>
    obtain ⟨b,es,clock,q1,q2,q3,q4⟩:=this;exact ⟨b,es,clock,q1,ho b _ q2 (.inr rfl),q3,q4⟩
  | dead=>trivial
 ·have f:=hA.fr;refine ⟨h1.trans f.os,h2.trans f.tape,h3.trans f.output,Nat.le_trans f.size h4,fun k hk hm => ?_,f.mb,f.xs,f.xk⟩;rcases hb k (Nat.lt_of_lt_of_le hk f.size) with e | ⟨ge,_⟩
  ·rw [e];exact f.blk k hk hm
  ·omega
theorem akx {N:Nat} {E:En} {a:Act} {w:World} {s:S} (hS:sF iV N E a w s) {k:Nat} (hn:NC w.heap k):¬Cb E k:=by
 rintro ⟨r,o,z,h1,h2,h3⟩;obtain ⟨o',ho',k1,k2⟩:=hn;have hE:E.h=w.heap:=hS.h.symm;have:=hS.sim.ob r o h1;cases o with
 | data e s cs mt =>
   rcases this with ⟨q1,q2⟩ | ⟨b,cur,q1,q2,_⟩
   ·rw [q1] at h3;cases h3
   ·rw [q1] at h3;cases h3;rw [hE,ho'] at q2;cases q2;cases k1
 | mix cs =>
   obtain ⟨b,cur,t,q1,q2,_⟩:=this;rw [q1] at h3;cases h3;rw [hE,ho'] at q2;cases q2;cases k1
 | mp ks =>
   obtain ⟨b,es,clock,q1,q2,_⟩:=this;rw [q1] at h3;cases h3;rw [hE,ho'] at q2;cases q2;cases k2
 | dead=>cases h2
theorem dK.trans {E0 E1 E2:En} {w0 w1 w2:World} (h:dK E0 w0 E1 w1) (k:dK E1 w1 E2 w2):dK E0 w0 E2 w2:=⟨h.ext.trans k.ext,h.fr.trans k.fr⟩
theorem EH {N:Nat} {E E':En} {a:Act} {w w':World} {s:S} (hS:sF iV N E a w s) (hA:dK E w E' w') {k:Nat} {o:Obj} (h:w.heap[k]? = some o) (h1:o.isCells=false) (h2:o.isWalk=false):w'.heap[k]? = some o:=by
 rw [hA.fr.blk k (Array.getElem?_eq_some_iff.1 h).1 (akx hS ⟨o,h,h1,h2⟩)];exact h
theorem EI {w0 w:World} {l:Nat} {o o':Obj} (h0:w0.heap.size<=l) (h:w.heap[l]? = some o) (h1:o.isCells=false) (h2:o.isWalk=false):∀k,k<w.heap.size->(w.putObj l o').heap[k]? = w.heap[k]? \/ (w0.heap.size<=k/\NC w.heap k):=fun k hk=>by
 by_cases e:k=l
 ·subst e;exact .inr ⟨h0,o,h,h1,h2⟩
 ·exact .inl (World.putObj_heap_other e)
noncomputable def EJ (fn:FuncId) (tm:Array Value) (D:Nat) (st:LoopState) (pe:Option Code):Loop:={state:=st,pending:=pe,fn:=fn,tmps:=tm,params := #[66,67],assign:=agM,body:=agN,defers:=D}
noncomputable def EK (l:List tJ) (rc:Int) (bg:Nat->Int):Nat->Option Int
 | 0=>some rc
 | k+1=>ah (EK l rc bg k) fun s=>ah (fP (l,bg k)) fun j =>
   bif decide (0<=j/\j<(l.length:Int)) then some (IntKind.wrap .i64 (s+(if (k:Int)=0 then (l.getD j.toNat ((0,(0,0)),(0,0))).2.1 else (l.getD j.toNat ((0,(0,0)),(0,0))).2.2))) else none
theorem O7 {l:List tJ} {rc:Int} {bg:Nat->Int} {k:Nat} {s':Int} (h:EK l rc bg (k+1)=some s'):∃s j,EK l rc bg k=some s/\fP (l,bg k)=some j/\0<=j/\j<(l.length:Int) /\
 s'=IntKind.wrap .i64 (s+(if (k:Int)=0 then (l.getD j.toNat ((0,(0,0)),(0,0))).2.1 else (l.getD j.toNat ((0,(0,0)),(0,0))).2.2)):=by
 unfold EK at h;cases h1:EK l rc bg k with
 | none=>rw [h1] at h;cases h
 | some s =>
   rw [h1] at h;simp only [ay] at h;cases h2:fP (l,bg k) with
   | none=>rw [h2] at h;cases h
   | some j =>
     rw [h2] at h;simp only [ay] at h;by_cases hj:0<=j/\j<(l.length:Int)
     ·rw [decide_eq_true hj] at h;cases h;exact ⟨s,j,rfl,rfl,hj.1,hj.2,rfl⟩
     ·rw [decide_eq_false hj] at h;cases h
theorem Yp {l:List tJ} {rc:Int} {bg:Nat->Int}:∀ {n:Nat} {s:Int},EK l rc bg n=some s->∀k,k<=n->∃t,EK l rc bg k=some t
 | 0,s,h,k,hk=>⟨s,by rw [show k=0 from by omega];exact h⟩
 | n+1,s,h,k,hk=>by
   by_cases e:k=n+1
   ·subst e;exact ⟨s,h⟩
   ·obtain ⟨t,_,ht,_⟩:=O7 h;exact Yp ht k (by omega)
section
variable {rb:ByteArray} {rc rf ji at0 np:Int} {pl:List tJ} {pcells:List DV} {pn:Nat} {E0:En} {w0:World} {tm:Array Value} {D L:Nat} {fn:FuncId}
def aky (rb:ByteArray) (rc rf ji at0 np:Int) (pl:List tJ) (pcells:List DV) (pn:Nat) (E0:En) (w0:World) (tm:Array Value) (D L:Nat) (fn:FuncId) (k:Nat) (W:World):Prop :=
 ∃E s,EK pl rc (sJ at0 rf ji) k=some s/\sF iV 87 E ⟨tm,[]⟩ W (Gs rb rc rf ji at0 np pcells pn s).S/\dK E0 w0 E W/\W.heap[D]? = some (.deferred (some []))/\W.heap[L]? = some (.loop (EJ fn tm D .ready none))
theorem aiy {E:En} {k:IntKind} {v:Int}:Rel E (.d (.val (.int k v))) (.int k v):=by rw [Rel,dL];exact ⟨rfl,rfl⟩
set_option maxHeartbeats 1000000 in
theorem ad2 (h0:E0.hp=aV []) (hcp:aU UP pl=pcells) (hnp:pl.length=pn) (hD:w0.heap.size<=D) (hL:w0.heap.size<=L) (hDL:D≠L) {k:Nat} {W:World} (hI:aky rb rc rf ji at0 np pl pcells pn E0 w0 tm D L fn k W) {s':Int} (hs':EK pl rc (sJ at0 rf ji) (k+1)=some s') (m:Nat) :
 YieldAt Fence.wide m Tryz.prog L #[.int .i64 k,.int .i64 (sJ at0 rf ji k)] W fun e W'=>e = .returned (.bool true)/\aky rb rc rf ji at0 np pl pcells pn E0 w0 tm D L fn (k+1) W':=by
 obtain ⟨E,s,hs,hS,hA,hDo,hLo⟩:=hI;obtain ⟨s1,j,hs1,hj,hj0,hj1,e1⟩:=O7 hs';rw [hs] at hs1;obtain rfl:s=s1:=by cases hs1;rfl
 have hy:=run_yield (P:=Tryz.prog) (args := #[.int .i64 k,.int .i64 (sJ at0 rf ji k)]) hLo rfl;refine ⟨_,_,_,_,hy,roundIn_of_wpIn trivial ?_⟩;have q1:nN [] iV 87 E ((⟨tm,[]⟩:Act).put (some 66) (.int .i64 k)) W ({Gs rb rc rf ji at0 np pcells pn s with tm:=(66,.d (.val (.int .i64 k)))::(Gs rb rc rf ji at0 np pcells pn s).tm}:SL).S:=by
  have:=(⟨hS,rfl⟩:nN [] iV 87 E ⟨tm,[]⟩ W (Gs rb rc rf ji at0 np pcells pn s).S).put (Goes.refl hS.h hS.sim) (d:=some 66) (fun t e=>by cases e;decide) (v := .d (.val (.int .i64 k))) (u := .int .i64 k) aiy;have e:=SL.app_S (Gs rb rc rf ji at0 np pcells pn s) (some 66) ⟨.d (.val (.int .i64 k)),[],[],[],[]⟩;exact e▸this
 have q2:nN [] iV 87 E (((⟨tm,[]⟩:Act).put (some 66) (.int .i64 k)).put (some 67) (.int .i64 (sJ at0 rf ji k))) W (stA rb rc rf ji at0 np pcells pn s k (sJ at0 rf ji k)).S:=by
  have:=q1.put (Goes.refl hS.h hS.sim) (d:=some 67) (fun t e=>by cases e;decide) (v := .d (.val (.int .i64 (sJ at0 rf ji k)))) (u := .int .i64 (sJ at0 rf ji k)) aiy;have e:=SL.app_S ({Gs rb rc rf ji at0 np pcells pn s with tm:=(66,.d (.val (.int .i64 k)))::(Gs rb rc rf ji at0 np pcells pn s).tm}:SL) (some 67) ⟨.d (.val (.int .i64 (sJ at0 rf ji k))),[],[],[],[]⟩;exact e▸this
 have hA1:=iW (df:=[]) (hp0:=E.hp) (aiw Tryz.prog L) m KK.hq KK.hdp KK.hm KK.hT agM (fun e t=>e = .normal/\t=stB rb rc rf ji at0 np pcells pn s k (sJ at0 rf ji k)) (stA rb rc rf ji at0 np pcells pn s k (sJ at0 rf ji k)) (by kernel_rfl) (by rw [<-iL];exact akv);have hact:({tmps:=((#[66,67]:Array Tmp).zip #[Value.int .i64 k,.int .i64 (sJ at0 rf ji k)]).foldl (fun tmps (t,a)=>tmps.setIfInBounds t a) tm,defers:=[]}:Act)=((⟨tm,[]⟩:Act).put (some 66) (.int .i64 k)).put (some 67) (.int .i64 (sJ at0 rf ji k)):=by simp [Act.put]
 rw [<-hact] at q2;refine wpIn_mono (hA1 E W E _ W rfl q2 (dK.refl _ _)) ?_;rintro e a1 w1 ⟨_,E1,⟨sl,rfl,rfl,rfl⟩,hS2,hA2⟩;have hD1:=EH hS hA2 hDo rfl rfl;have hL1:=EH hS hA2 hLo rfl rfl;have hL1lt:=(Array.getElem?_eq_some_iff.1 hL1).1;refine ⟨_,run_beginRound hL1 rfl,?_⟩;obtain ⟨hS3,hA3,hx3⟩:=Lh (w':=w1.putObj L (.loop {EJ fn tm D .ready none with state := .busy})) hS2.sm (hA.trans hA2) rfl rfl rfl (by simp) (EI hL hL1 rfl rfl);have hD2:(w1.putObj L (.loop {EJ fn tm D .ready none with state := .busy})).heap[D]? = some (.deferred (some [])):=(World.putObj_heap_other hDL).trans hD1;have hL2:(w1.putObj L (.loop {EJ fn tm D .ready none with state := .busy})).heap[L]? = some (.loop {EJ fn tm D .ready none with state := .busy}):=World.putObj_heap_same hL1lt;generalize w1.putObj L (.loop {EJ fn tm D .ready none with state := .busy})=w2 at *
 obtain ⟨i,hi⟩:∃i:Nat,j=(i:Int):=⟨j.toNat,by omega⟩
 obtain ⟨⟨⟨d1,d2,d3⟩,d4,d5⟩,hrow⟩:∃x,pl.getD i ((0,(0,0)),(0,0))=x:=⟨_,rfl⟩
 have e2:s'=IntKind.wrap .i64 (s+(if (k:Int)=0 then d4 else d5)):=by rw [e1,hi,Int.toNat_natCast,hrow]
 have hA4:=iW (df:=[]) (hp0:=E1.hp) (aiw Tryz.prog L) m KK.hq KK.hdp KK.hm KK.hT agN (fun e t=>e = .normal/\uG iV 87 (aV []) ({t with tm:=(Gs rb rc rf ji at0 np pcells pn s).tm}:SL).S (Gs rb rc rf ji at0 np pcells pn s').S) (stB rb rc rf ji at0 np pcells pn s k (sJ at0 rf ji k)) (by kernel_rfl)
  (by rw [<-iL];exact akw hcp hnp hj hi (by omega) hrow (by omega) e2 rfl rfl rfl)
 refine wpIn_mono (hA4 {E1 with h:=w2.heap} w2 {E1 with h:=w2.heap} a1 w2 rfl ⟨hS3,hS2.dq⟩ (dK.refl _ _)) ?_;rintro e a3 w3 ⟨_,E3,⟨sl,rfl,rfl,hT⟩,hS4,hA5⟩;have hD3:=EH hS3 hA5 hD2 rfl rfl;have hL3:=EH hS3 hA5 hL2 rfl rfl;have hL3lt:=(Array.getElem?_eq_some_iff.1 hL3).1;refine ⟨_,_,run_endRound none hL3,rfl,?_⟩;have hS5:sF iV 87 E3 ⟨tm,[]⟩ w3 ({sl with tm:=(Gs rb rc rf ji at0 np pcells pn s).tm}:SL).S:=⟨hS4.sm.h,hS4.sm.hp,hS4.sm.sim,hS.n,rfl,fun t=>Rel.ext ((hA2.ext.trans hx3).trans hA5.ext) _ _ (hS.tm t)⟩
 obtain ⟨E4,hS6,hA6⟩:=hT E0 w0 E3 _ w3 h0 hS5 (hA3.trans hA5);obtain ⟨hS7,hA7,_⟩:=Lh (w':=w3.putObj L (.loop (EJ fn tm D .ready none))) hS6 hA6 rfl rfl rfl (by simp) (EI hL hL3 rfl rfl);exact ⟨_,s',hs',hS7,hA7,(World.putObj_heap_other hDL).trans hD3,World.putObj_heap_same hL3lt⟩
end
end Go.Proofs.YtkpijdndakljjaaGreat
