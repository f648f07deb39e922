import Derived.Test.YtkpijdndakljjaaZrp
import Derived.Test.YtkpijdndakljjaaFp
import Derived.Test.YtkpijdndakljjaaXBp
import Derived.Test.YtkpijdndakljjaaXAp
import Derived.OrdersIn
import Derived.ControlIn
import Derived.RangeFuncLeaves
import Derived.RangeFuncCalls
import Derived.RangeFuncRecord
import Derived.RangeFuncKeeps
import Derived.Shelf.Abstract
import Derived.WalkKit
import Derived.OwnWalkIn
import Derived.TacticsInMore
import Derived.LoopNIn
import Derived.LoopIn
import Derived.Test.YtkpijdndakljjaaProg
import Derived.RangeFuncIn
set_option linter.unusedSimpArgs false
set_option linter.unusedVariables false
noncomputable section
set_option maxRecDepth 1000000
set_option maxHeartbeats 0
namespace Go.Proofs.Ytkpijdndakljjaa
open Go.RowKit
def aez:List (Nat×PL):=[(134480385,(.carry [.tmp 3 false [(.dat (.int .u32))]])),(18049651601311750,(.carry [.tmp 9 false [(.dat (.int .i64))],.tmp 3 false [(.dat (.int .u32))]])),(2422583229119624904966657,(.carry [.tmp 3 false [(.dat (.int .u32))]])),(43641379711748622625774587972117695039494,(.carry [.tmp 17 false [(.dat (.int .i64))],.tmp 3 false [(.dat (.int .u32))]]))]
def mF:(List Int)->Option Int:=fun a1 =>
 aA (ay (fun (v2,v3) =>
 bif (decide (v2<(a1.length:Int))) then
 aA (bif (decide ((0<=v2)/\(v2<(a1.length:Int)))) then
 ah a1[v2.toNat]? fun x4 =>
 ay (fun (v7,v8) =>
 bif (decide (v7<8)) then
 ah (some (IntKind.wrap .u32 (Int.tdiv v8 (2:Int)))) fun x10 =>
 bif (decide ((IntKind.wrap .u32 (((BitVec.toNat ((BitVec.ofInt 32 v8) &&& (BitVec.ofInt 32 (1:Int)))):Nat):Int))=1)) then
 some (Sum.inl ((IntKind.wrap .i64 (v7+(1:Int))),(IntKind.wrap .u32 (((BitVec.toNat ((BitVec.ofInt 32 x10) ^^^ (BitVec.ofInt 32 (3988292384:Int)))):Nat):Int))))
 else
 some (Sum.inl ((IntKind.wrap .i64 (v7+(1:Int))),x10))
 else
 au (some (Sum.inl v8))) ((0:Int),(IntKind.wrap .u32 (((BitVec.toNat ((BitVec.ofInt 32 v3) ^^^ (BitVec.ofInt 32 (IntKind.wrap .u32 x4)))):Nat):Int)))
 else none) fun v14 =>
 some (Sum.inl ((IntKind.wrap .i64 (v2+(1:Int))),v14))
 else
 au (some (Sum.inl v3))) ((0:Int),(4294967295:Int))) fun v16 =>
 some (IntKind.wrap .u32 (((BitVec.toNat ((BitVec.ofInt 32 (4294967295:Int)) ^^^ (BitVec.ofInt 32 v16))):Nat):Int))
def UJ:List (Nat×CE):=[]
theorem Iy:dZ Try.prog UJ:=trivial
theorem ahm:aV Try.prog 102 ⟨[(.tmp 0 false [(.dat (.list (.int .u8)))])],[(.tmp 0 false [(.dat (.int .u32))])],mF⟩ :=nT aez fC Iy Try.func102
def aeA:List (Nat×PL):=[(134480385,(.carry [.tmp 3 false [(.dat (.int .u32))]])),(18049651601311750,(.carry [.tmp 4 false [(.dat (.int .i64))],.tmp 3 false [(.dat (.int .u32))]])),(4731607869374267392513,(.carry [.tmp 3 false [(.dat (.int .u32))]])),(166478651854509821417867418488014854,(.carry [.tmp 5 false [(.dat (.int .i64))],.tmp 3 false [(.dat (.int .u32))]]))]
def jA:(List Int)->Option Int:=fun a1 =>
 aA (ay (fun (v2,v3) =>
 bif (decide (v2<(a1.length:Int))) then
 aA (bif (decide ((0<=v2)/\(v2<(a1.length:Int)))) then
 ah a1[v2.toNat]? fun x4 =>
 ay (fun (v7,v8) =>
 bif (decide (v7<8)) then
 bif (decide ((Int.tmod v8 (2:Int))=1)) then
 some (Sum.inl ((IntKind.wrap .i64 (v7+(1:Int))),(IntKind.wrap .u32 (((BitVec.toNat ((BitVec.ofInt 32 (IntKind.wrap .u32 (Int.tdiv v8 (2:Int)))) ^^^ (BitVec.ofInt 32 (3988292384:Int)))):Nat):Int))))
 else
 some (Sum.inl ((IntKind.wrap .i64 (v7+(1:Int))),(IntKind.wrap .u32 (Int.tdiv v8 (2:Int)))))
 else
 au (some (Sum.inl v8))) ((0:Int),(IntKind.wrap .u32 (((BitVec.toNat ((BitVec.ofInt 32 v3) ^^^ (BitVec.ofInt 32 (IntKind.wrap .u32 x4)))):Nat):Int)))
 else none) fun v15 =>
 some (Sum.inl ((IntKind.wrap .i64 (v2+(1:Int))),v15))
 else
 au (some (Sum.inl v3))) ((0:Int),(4294967295:Int))) fun v17 =>
 some (IntKind.wrap .u32 (((BitVec.toNat ((BitVec.ofInt 32 v17) ^^^ (BitVec.ofInt 32 (4294967295:Int)))):Nat):Int))
def UK:List (Nat×CE):=(102,⟨[(.tmp 0 false [(.dat (.list (.int .u8)))])],[(.tmp 0 false [(.dat (.int .u32))])],mF⟩)::UJ
theorem Iz:dZ Try.prog UK:=⟨ahm,Iy⟩
theorem ahn:aV Try.prog 129 ⟨[(.tmp 0 false [(.dat (.list (.int .u8)))])],[(.tmp 0 false [(.dat (.int .u32))])],jA⟩ :=nT aeA fC Iz Try.func129
def aeB:List (Nat×PL):=[(134480385,(.carry [.drop 0,.tmp 5 false [(.dat (.list (.int .u8)))]])),(18049651601311750,(.carry [.tmp 6 false [(.dat (.int .i64))],.tmp 0 false [(.dat (.int .i64))],.tmp 5 false [(.dat (.list (.int .u8)))]]))]
def eH:(Int×Int)->Option (List Int):=fun (a1,a2) =>
 aA (ay (fun (v3,(v4,v5)) =>
 bif (decide (v3<a2)) then
 ah (some (Int.tmod v4 (256:Int))) fun x6 =>
 bif (decide ((1=0)\/(v5.length≠0))) then
 bif (decide (((List.length (((IntKind.wrap .u8 x6)::([]:List Int))++v5))*1)<=140737488355328)) then
 ah (some (((IntKind.wrap .u8 x6)::([]:List Int))++v5)) fun x8 =>
 bif (decide (x8.length<=x8.length)) then
 some (Sum.inl ((IntKind.wrap .i64 (v3+(1:Int))),((IntKind.wrap .i64 (Int.tdiv v4 (256:Int))),(x8.take x8.length))))
 else none
 else none
 else
 some (Sum.inl ((IntKind.wrap .i64 (v3+(1:Int))),((IntKind.wrap .i64 (Int.tdiv v4 (256:Int))),((IntKind.wrap .u8 x6)::([]:List Int)))))
 else
 au (some (Sum.inl v5))) ((0:Int),(a1,([]:List Int)))) fun v13 =>
 some v13
def UL:List (Nat×CE):=(129,⟨[(.tmp 0 false [(.dat (.list (.int .u8)))])],[(.tmp 0 false [(.dat (.int .u32))])],jA⟩)::UK
theorem IB:dZ Try.prog UL:=⟨ahn,Iz⟩
theorem aho:aV Try.prog 128 ⟨[(.tmp 0 false [(.dat (.int .i64))]),(.tmp 1 false [(.dat (.int .i64))])],[(.tmp 0 false [(.dat (.list (.int .u8)))])],eH⟩ :=nT aeB ajt IB Try.func128
def ahp:List (Nat×PL):=[(4731607904492334612511,(.carry [.tmp 0 false [(.own 10000005 5 (.int .u8))]])),(1240362622515238564662084097,(.carry [.tmp 0 false [(.own 10000004 5 (.int .u8))]])),(166478653090116965526926015110318086,(.carry [.tmp 10 false [(.dat (.int .i64))],.tmp 0 false [(.own 10000003 5 (.int .u8))]])),(22344386578255678367278332572200562860491265,(.carry [.tmp 0 false [(.own 10000002 5 (.int .u8))],.dead 10000003])),(786173211466051447306281901482090301346629135624380352518,(.carry [.tmp 7 false [(.dat (.int .i64))],.tmp 0 false [(.own 10000001 5 (.int .u8))],.dead 10000003])),(18049651735527445,(.carry [.tmp 0 false [(.own 10000006 5 (.int .u8))],.dead 22])),(4731607904558106542593,(.carry [.tmp 0 false [(.own 10000010 5 (.int .u8))],.dead 22])),(635065662736629904128633735174,(.carry [.tmp 10 false [(.dat (.int .i64))],.tmp 0 false [(.own 10000009 5 (.int .u8))],.dead 22])),(85237070383324728109003039679208227329,(.carry [.tmp 0 false [(.own 10000008 5 (.int .u8))],.dead 22,.dead 10000009])),(2999012800128859266877521744582980956552618278389766,(.carry [.tmp 7 false [(.dat (.int .i64))],.tmp 0 false [(.own 10000007 5 (.int .u8))],.dead 22,.dead 10000009]))]
def nJ:(Int×(Int×(List Int)))->Option ((List Int)×Int):=fun (a1,(a2,a3)) =>
 bif (decide (a1<0)) then
 some (([]:List Int),(3:Int))
 else
 bif (decide (a1 > 1048575)) then
 some (([]:List Int),(3:Int))
 else
 bif (decide ((a3.length:Int) > 4096)) then
 some (([]:List Int),(4:Int))
 else
 aA (aA (ay (fun (v9,v10) =>
 bif (decide (v9<5)) then
 aA (bif (decide ((0<=v9)/\(v9<5))) then
 ah (((167:Int),(1:Int))::(((IntKind.wrap .u32 a2),(1:Int))::(((IntKind.wrap .u32 a1),(4:Int))::(((IntKind.wrap .u32 (a3.length:Int)),(2:Int))::(((IntKind.wrap .u32 (IntKind.wrap .i64 ((65535:Int)-(a3.length:Int)))),(2:Int))::([]:List (Int×Int)))))))[v9.toNat]? fun x11 =>
 bif (decide (v10.length<=v10.length)) then
 ay (fun (v13,v14) =>
 bif (decide (v13>=0)) then
 ah (some (IntKind.wrap .i64 ((8:Int)*v13))) fun x15 =>
 bif (decide (0<=x15)) then
 ah (some (Int.fdiv x11.1 ((2:Int) ^ (Min.min x15.toNat 32)))) fun x16 =>
 bif (decide (v14.length<=v14.length)) then
 bif (decide (((List.length ((v14.take v14.length)++((IntKind.wrap .u8 x16)::([]:List Int))))*1)<=140737488355328)) then
 ah (some ((v14.take v14.length)++((IntKind.wrap .u8 x16)::([]:List Int)))) fun x18 =>
 bif (decide (x18.length<=x18.length)) then
 some (Sum.inl ((IntKind.wrap .i64 (v13-(1:Int))),(x18.take x18.length)))
 else none
 else none
 else none
 else none
 else
 au (bif (decide (v14.length<=v14.length)) then
 some (Sum.inl (v14.take v14.length))
 else none)) ((IntKind.wrap .i64 (x11.2-(1:Int))),(v10.take v10.length))
 else none
 else none) fun v20 =>
 bif (decide (v20.length<=v20.length)) then
 some (Sum.inl ((IntKind.wrap .i64 (v9+(1:Int))),(v20.take v20.length)))
 else none
 else
 au (bif (decide (v10.length<=v10.length)) then
 some (Sum.inl (v10.take v10.length))
 else none)) ((0:Int),([]:List Int))) fun v22 =>
 bif (decide (v22.length<=v22.length)) then
 some (Sum.inl (v22.take v22.length))
 else none) fun v23 =>
 bif (decide (v23.length<=v23.length)) then
 bif (decide (((List.length ((v23.take v23.length)++a3))*1)<=140737488355328)) then
 ah (some ((v23.take v23.length)++a3)) fun x24 =>
 bif (decide (x24.length<=x24.length)) then
 ah (mF (x24.take x24.length)) fun x25 =>
 aA (aA (bif (decide (x24.length<=x24.length)) then
 ay (fun (v26,v27) =>
 bif (decide (v26<1)) then
 aA (bif (decide ((0<=v26)/\(v26<1))) then
 ah ((x25,(4:Int))::([]:List (Int×Int)))[v26.toNat]? fun x28 =>
 bif (decide (v27.length<=v27.length)) then
 ay (fun (v30,v31) =>
 bif (decide (v30>=0)) then
 ah (some (IntKind.wrap .i64 ((8:Int)*v30))) fun x32 =>
 bif (decide (0<=x32)) then
 ah (some (Int.fdiv x28.1 ((2:Int) ^ (Min.min x32.toNat 32)))) fun x33 =>
 bif (decide (v31.length<=v31.length)) then
 bif (decide (((List.length ((v31.take v31.length)++((IntKind.wrap .u8 x33)::([]:List Int))))*1)<=140737488355328)) then
 ah (some ((v31.take v31.length)++((IntKind.wrap .u8 x33)::([]:List Int)))) fun x35 =>
 bif (decide (x35.length<=x35.length)) then
 some (Sum.inl ((IntKind.wrap .i64 (v30-(1:Int))),(x35.take x35.length)))
 else none
 else none
 else none
 else none
 else
 au (bif (decide (v31.length<=v31.length)) then
 some (Sum.inl (v31.take v31.length))
 else none)) ((IntKind.wrap .i64 (x28.2-(1:Int))),(v27.take v27.length))
 else none
 else none) fun v37 =>
 bif (decide (v37.length<=v37.length)) then
 some (Sum.inl ((IntKind.wrap .i64 (v26+(1:Int))),(v37.take v37.length)))
 else none
 else
 au (bif (decide (v27.length<=v27.length)) then
 some (Sum.inl (v27.take v27.length))
 else none)) ((0:Int),(x24.take x24.length))
 else none) fun v39 =>
 bif (decide (v39.length<=v39.length)) then
 some (Sum.inl (v39.take v39.length))
 else none) fun v40 =>
 bif (decide (v40.length<=v40.length)) then
 some ((v40.take v40.length),(0:Int))
 else none
 else none
 else none
 else none
def Y4:List (Nat×CE):=(128,⟨[(.tmp 0 false [(.dat (.int .i64))]),(.tmp 1 false [(.dat (.int .i64))])],[(.tmp 0 false [(.dat (.list (.int .u8)))])],eH⟩)::UL
theorem LC:dZ Try.prog Y4:=⟨aho,IB⟩
theorem alj:aV Try.prog 73 ⟨[(.tmp 0 false [(.dat (.int .i64))]),(.tmp 1 true [(.dat (.int .u8)),(.dat (.list (.int .u8)))])],[(.tmp 0 false [(.dat (.list (.int .u8)))]),(.tmp 1 false [(.dat (.int .u8))])],nJ⟩ :=nT ahp fC LC Try.func73
def aeC:List (Nat×PL):=[]
def jg:(Int×(Int×(List Int)))->Option ((List Int)×Int):=fun (a1,(a2,a3)) =>
 bif (decide (a1<0)) then
 some (([]:List Int),(3:Int))
 else
 bif (decide (a1>=1048576)) then
 some (([]:List Int),(3:Int))
 else
 bif (decide ((a3.length:Int) > 4096)) then
 some (([]:List Int),(4:Int))
 else
 ah (eH (a1,(4:Int))) fun x4 =>
 bif (decide ((2=0)\/(x4.length≠0))) then
 bif (decide (((List.length (((167:Int)::(a2::([]:List Int)))++x4))*1)<=140737488355328)) then
 ah (some (((167:Int)::(a2::([]:List Int)))++x4)) fun x5 =>
 ah (eH ((a3.length:Int),(2:Int))) fun x6 =>
 bif (decide (x5.length<=x5.length)) then
 bif (decide (((List.length ((x5.take x5.length)++x6))*1)<=140737488355328)) then
 ah (some ((x5.take x5.length)++x6)) fun x7 =>
 ah (eH ((IntKind.wrap .i64 ((65535:Int)-(a3.length:Int))),(2:Int))) fun x9 =>
 bif (decide (x7.length<=x7.length)) then
 bif (decide (((List.length ((x7.take x7.length)++x9))*1)<=140737488355328)) then
 ah (some ((x7.take x7.length)++x9)) fun x10 =>
 bif (decide (x10.length<=x10.length)) then
 bif (decide (((List.length ((x10.take x10.length)++a3))*1)<=140737488355328)) then
 ah (some ((x10.take x10.length)++a3)) fun x11 =>
 bif (decide (x11.length<=x11.length)) then
 ah (jA (x11.take x11.length)) fun x12 =>
 ah (eH ((IntKind.wrap .i64 x12),(4:Int))) fun x14 =>
 bif (decide (x11.length<=x11.length)) then
 bif (decide (((List.length ((x11.take x11.length)++x14))*1)<=140737488355328)) then
 ah (some ((x11.take x11.length)++x14)) fun x15 =>
 bif (decide (x15.length<=x15.length)) then
 some ((x15.take x15.length),(0:Int))
 else none
 else none
 else none
 else none
 else none
 else none
 else none
 else none
 else none
 else none
 else none
 else none
def UM:List (Nat×CE):=(73,⟨[(.tmp 0 false [(.dat (.int .i64))]),(.tmp 1 true [(.dat (.int .u8)),(.dat (.list (.int .u8)))])],[(.tmp 0 false [(.dat (.list (.int .u8)))]),(.tmp 1 false [(.dat (.int .u8))])],nJ⟩)::Y4
theorem IC:dZ Try.prog UM:=⟨alj,LC⟩
theorem ahq:aV Try.prog 113 ⟨[(.tmp 0 false [(.dat (.int .i64))]),(.tmp 1 true [(.dat (.int .u8)),(.dat (.list (.int .u8)))])],[(.tmp 0 false [(.dat (.list (.int .u8)))]),(.tmp 1 false [(.dat (.int .u8))])],jg⟩ :=nT aeC fC IC Try.func113
def ahr:List (Nat×PL):=[]
def jh:((List Int)×(List Int))->Option (List Int):=fun (a1,a2) =>
 ah (some (IntKind.wrap .i64 ((a1.length:Int)+(a2.length:Int)))) fun x3 =>
 bif (decide ((0<=x3)/\((x3<=x3)/\(((x3*(1:Int))<=140737488355328)/\(x3<=9223372036854775807))))) then
 bif (decide (x3.toNat<=(List.length (List.replicate x3.toNat (0:Int))))) then
 bif (decide ((0<=(a1.length:Int))/\((a1.length:Int)<=((x3.toNat:Nat):Int)))) then
 bif (decide (((Int.toNat (a1.length:Int))+(x3.toNat-(Int.toNat (a1.length:Int))))<=(List.length (zW (List.replicate x3.toNat (0:Int)) 0 (List.take x3.toNat a1))))) then
 bif (decide (x3.toNat<=(List.length (zW (zW (List.replicate x3.toNat (0:Int)) 0 (List.take x3.toNat a1)) (Int.toNat (a1.length:Int)) (List.take (x3.toNat-(Int.toNat (a1.length:Int))) a2))))) then
 some (List.take x3.toNat (zW (zW (List.replicate x3.toNat (0:Int)) 0 (List.take x3.toNat a1)) (Int.toNat (a1.length:Int)) (List.take (x3.toNat-(Int.toNat (a1.length:Int))) a2)))
 else none
 else none
 else none
 else none
 else none
def Y5:List (Nat×CE):=(113,⟨[(.tmp 0 false [(.dat (.int .i64))]),(.tmp 1 true [(.dat (.int .u8)),(.dat (.list (.int .u8)))])],[(.tmp 0 false [(.dat (.list (.int .u8)))]),(.tmp 1 false [(.dat (.int .u8))])],jg⟩)::UM
theorem LD:dZ Try.prog Y5:=⟨ahq,IC⟩
theorem alk:aV Try.prog 74 ⟨[(.tmp 0 false [(.dat (.list (.int .u8)))]),(.tmp 1 false [(.dat (.list (.int .u8)))])],[(.tmp 0 false [(.dat (.list (.int .u8)))])],jh⟩ :=nT ahr fC LD Try.func74
def ahs:List (Nat×PL):=[]
def sK:(List Int)->Option (List Int):=fun a1 =>
 bif (decide ((a1.length*1)<=140737488355328)) then
 bif (decide (a1.length<=a1.length)) then
 some (a1.take a1.length)
 else none
 else none
def Y6:List (Nat×CE):=(74,⟨[(.tmp 0 false [(.dat (.list (.int .u8)))]),(.tmp 1 false [(.dat (.list (.int .u8)))])],[(.tmp 0 false [(.dat (.list (.int .u8)))])],jh⟩)::Y5
theorem LH:dZ Try.prog Y6:=⟨alk,LD⟩
theorem alm:aV Try.prog 91 ⟨[(.tmp 0 false [(.dat (.list (.int .u8)))])],[(.tmp 0 false [(.dat (.list (.int .u8)))])],sK⟩ :=nT ahs fC LH Try.func91
def aht:List (Nat×PL):=[]
def gB:((List Int)×(Int×Int))->Option Bool:=fun (a1,(a2,a3)) =>
 bif (decide (a2>=0)) then
 bif (decide (a2<=(a1.length:Int))) then
 bif (decide (a3>=0)) then
 some (decide (a3<=1048576))
 else
 some false
 else
 some false
 else
 some false
def Y7:List (Nat×CE):=(91,⟨[(.tmp 0 false [(.dat (.list (.int .u8)))])],[(.tmp 0 false [(.dat (.list (.int .u8)))])],sK⟩)::Y6
theorem LJ:dZ Try.prog Y7:=⟨alm,LH⟩
theorem aeD:aV Try.prog 54 ⟨[(.tmp 0 true [(.dat (.list (.int .u8))),(.dat (.int .i64)),(.dat (.int .i64))])],[(.tmp 0 false [(.dat .bool)])],gB⟩ :=nT aht fC LJ Try.func54
def ahu:List (Nat×PL):=[]
def fD:((List Int)×(Int×Int))->Option Bool:=fun (a1,(a2,a3)) =>
 bif (decide (a2>=0)) then
 bif (decide (a2<=(a1.length:Int))) then
 bif (decide (a3>=0)) then
 some (decide (a3<=1048576))
 else
 some false
 else
 some false
 else
 some false
def Y8:List (Nat×CE):=(54,⟨[(.tmp 0 true [(.dat (.list (.int .u8))),(.dat (.int .i64)),(.dat (.int .i64))])],[(.tmp 0 false [(.dat .bool)])],gB⟩)::Y7
theorem LK:dZ Try.prog Y8:=⟨aeD,LJ⟩
theorem aln:aV Try.prog 56 ⟨[(.tmp 0 true [(.dat (.list (.int .u8))),(.dat (.int .i64)),(.dat (.int .i64))])],[(.tmp 0 false [(.dat .bool)])],fD⟩ :=nT ahu fC LK Try.func56
def ahv:List (Nat×PL):=[]
def qF:(((List Int)×(Int×Int))×((List Int)×(Int×Int)))->Option Bool:=fun ((a1,(a2,a3)),(a4,(a5,a6))) =>
 bif (decide ((ni a1)=(ni a4))) then
 bif (decide (a2=a5)) then
 some (decide (a3=a6))
 else
 some false
 else
 some false
def Y9:List (Nat×CE):=(56,⟨[(.tmp 0 true [(.dat (.list (.int .u8))),(.dat (.int .i64)),(.dat (.int .i64))])],[(.tmp 0 false [(.dat .bool)])],fD⟩)::Y8
theorem LM:dZ Try.prog Y9:=⟨aln,LK⟩
theorem alo:aV Try.prog 58 ⟨[(.tmp 0 true [(.dat (.list (.int .u8))),(.dat (.int .i64)),(.dat (.int .i64))]),(.tmp 1 true [(.dat (.list (.int .u8))),(.dat (.int .i64)),(.dat (.int .i64))])],[(.tmp 0 false [(.dat .bool)])],qF⟩ :=nT ahv fC LM Try.func58
def ahw:List (Nat×PL):=[]
def kX:(((List Int)×(Int×Int))×(Int×(List Int)))->Option (((List Int)×(Int×Int))×Int):=fun ((a1,(a2,a3)),(a4,a5)) =>
 ah (gB (a1,(a2,a3))) fun x6 =>
 bif (!x6) then
 some ((([]:List Int),((0:Int),(0:Int))),(2:Int))
 else
 bif (decide (a3>=1048576)) then
 some ((([]:List Int),((0:Int),(0:Int))),(10:Int))
 else
 ah (nJ (a3,(a4,a5))) fun (x8,x9) =>
 bif (decide (x9≠0)) then
 some ((([]:List Int),((0:Int),(0:Int))),x9)
 else
 ah (jh (a1,x8)) fun x10 =>
 some ((x10,(a2,(IntKind.wrap .i64 (a3+(1:Int))))),(0:Int))
def Za:List (Nat×CE):=(58,⟨[(.tmp 0 true [(.dat (.list (.int .u8))),(.dat (.int .i64)),(.dat (.int .i64))]),(.tmp 1 true [(.dat (.list (.int .u8))),(.dat (.int .i64)),(.dat (.int .i64))])],[(.tmp 0 false [(.dat .bool)])],qF⟩)::Y9
theorem LP:dZ Try.prog Za:=⟨alo,LM⟩
theorem aeE:aV Try.prog 30 ⟨[(.tmp 0 true [(.dat (.list (.int .u8))),(.dat (.int .i64)),(.dat (.int .i64))]),(.tmp 1 true [(.dat (.int .u8)),(.dat (.list (.int .u8)))])],[(.tmp 0 true [(.dat (.list (.int .u8))),(.dat (.int .i64)),(.dat (.int .i64))]),(.tmp 1 false [(.dat (.int .u8))])],kX⟩ :=nT ahw fC LP Try.func30
def ahx:List (Nat×PL):=[]
def kJ:((List Int)×(Int×Int))->Option ((List Int)×(Int×Int)):=fun (a1,(a2,a3)) =>
 ah (gB (a1,(a2,a3))) fun x4 =>
 bif (!x4) then
 some (([]:List Int),((0:Int),(0:Int)))
 else
 ah (jh (a1,([]:List Int))) fun x5 =>
 some (x5,((a1.length:Int),a3))
def Zb:List (Nat×CE):=(30,⟨[(.tmp 0 true [(.dat (.list (.int .u8))),(.dat (.int .i64)),(.dat (.int .i64))]),(.tmp 1 true [(.dat (.int .u8)),(.dat (.list (.int .u8)))])],[(.tmp 0 true [(.dat (.list (.int .u8))),(.dat (.int .i64)),(.dat (.int .i64))]),(.tmp 1 false [(.dat (.int .u8))])],kX⟩)::Za
theorem LV:dZ Try.prog Zb:=⟨aeE,LP⟩
theorem aeF:aV Try.prog 68 ⟨[(.tmp 0 true [(.dat (.list (.int .u8))),(.dat (.int .i64)),(.dat (.int .i64))])],[(.tmp 0 true [(.dat (.list (.int .u8))),(.dat (.int .i64)),(.dat (.int .i64))])],kJ⟩ :=nT ahx fC LV Try.func68
def ahy:List (Nat×PL):=[]
def mG:(((List Int)×(Int×Int))×Int)->Option (List Int):=fun ((a1,(a2,a3)),a4) =>
 ah (gB (a1,(a2,a3))) fun x5 =>
 bif (!x5) then
 some ([]:List Int)
 else
 bif ((decide ((0<=(xX (dM a2 a4) (a1.length:Int)))/\((xX (dM a2 a4) (a1.length:Int))<=(a1.length:Int))))&&(decide ((0<=(xX (dM a2 a4) (a1.length:Int)))/\((xX (dM a2 a4) (a1.length:Int))<=(((Int.toNat (xX (dM a2 a4) (a1.length:Int))):Nat):Int))))) then
 ah (jh ((List.take (Int.toNat (xX (dM a2 a4) (a1.length:Int))) a1),([]:List Int))) fun x7 =>
 some x7
 else none
def Zc:List (Nat×CE):=(68,⟨[(.tmp 0 true [(.dat (.list (.int .u8))),(.dat (.int .i64)),(.dat (.int .i64))])],[(.tmp 0 true [(.dat (.list (.int .u8))),(.dat (.int .i64)),(.dat (.int .i64))])],kJ⟩)::Zb
theorem LW:dZ Try.prog Zc:=⟨aeF,LV⟩
theorem aeG:aV Try.prog 33 ⟨[(.tmp 0 true [(.dat (.list (.int .u8))),(.dat (.int .i64)),(.dat (.int .i64))]),(.tmp 1 false [(.dat (.int .i64))])],[(.tmp 0 false [(.dat (.list (.int .u8)))])],mG⟩ :=nT ahy fC LW Try.func33
def aeH:List (Nat×PL):=[(134480385,(.carry [.tmp 5 false [(.dat (.int .i64))]])),(4731607904491797741599,(.carry [.tmp 0 false [(.own 10000005 5 (.int .u8))]])),(1240362622515097827173728769,(.carry [.tmp 0 false [(.own 10000004 5 (.int .u8))]])),(35253226045953,(.carry [])),(166478653090098076060994536529463302,(.carry [.tmp 10 false [(.dat (.int .i64))],.tmp 0 false [(.own 10000003 5 (.int .u8))]])),(4731607904558101301254,(.carry [.tmp 29 false [(.dat (.int .i64))]])),(22344386578253143066077876113397569454080513,(.carry [.tmp 0 false [(.own 10000002 5 (.int .u8))],.dead 10000003])),(22344386578566252773887596188391760879421441,(.carry [.tmp 42 false [(.dat .bool)]])),(786173211465962244325487778989524158473538542178356430854,(.carry [.tmp 7 false [(.dat (.int .i64))],.tmp 0 false [(.own 10000001 5 (.int .u8))],.dead 10000003])),(5857446875251671767157990015209769763975054231041,(.carry [.tmp 46 false [(.dat .bool)]]))]
def nK:((List Int)×Int)->Option Bool:=fun (a1,a2) =>
 aA (bif (decide ((a1.length:Int)>=8)) then
 bif (decide (((0:Int)<=6)/\(6<(a1.length:Int)))) then
 ah a1[6]? fun x3 =>
 bif (decide (((0:Int)<=7)/\(7<(a1.length:Int)))) then
 ah a1[7]? fun x6 =>
 ah (some (IntKind.wrap .i64 (((BitVec.toNat ((BitVec.ofInt 64 (IntKind.wrap .i64 ((IntKind.wrap .i64 x3)*(256:Int)))) ||| (BitVec.ofInt 64 (IntKind.wrap .i64 x6)))):Nat):Int))) fun x8 =>
 bif (decide (x8 > 4096)) then
 au (some false)
 else
 some (Sum.inl x8)
 else none
 else none
 else
 some (Sum.inl (0:Int))) fun v9 =>
 aA (aA (ay (fun (v14,v15) =>
 bif (decide (v14<5)) then
 aA (bif (decide ((0<=v14)/\(v14<5))) then
 ah (((167:Int),(1:Int))::(((0:Int),(1:Int))::(((IntKind.wrap .u32 a2),(4:Int))::(((IntKind.wrap .u32 v9),(2:Int))::(((IntKind.wrap .u32 (IntKind.wrap .i64 ((65535:Int)-v9))),(2:Int))::([]:List (Int×Int)))))))[v14.toNat]? fun x16 =>
 bif (decide (v15.length<=v15.length)) then
 ay (fun (v18,v19) =>
 bif (decide (v18>=0)) then
 ah (some (IntKind.wrap .i64 ((8:Int)*v18))) fun x20 =>
 bif (decide (0<=x20)) then
 ah (some (Int.fdiv x16.1 ((2:Int) ^ (Min.min x20.toNat 32)))) fun x21 =>
 bif (decide (v19.length<=v19.length)) then
 bif (decide (((List.length ((v19.take v19.length)++((IntKind.wrap .u8 x21)::([]:List Int))))*1)<=140737488355328)) then
 ah (some ((v19.take v19.length)++((IntKind.wrap .u8 x21)::([]:List Int)))) fun x23 =>
 bif (decide (x23.length<=x23.length)) then
 some (Sum.inl ((IntKind.wrap .i64 (v18-(1:Int))),(x23.take x23.length)))
 else none
 else none
 else none
 else none
 else
 au (bif (decide (v19.length<=v19.length)) then
 some (Sum.inl (v19.take v19.length))
 else none)) ((IntKind.wrap .i64 (x16.2-(1:Int))),(v15.take v15.length))
 else none
 else none) fun v25 =>
 bif (decide (v25.length<=v25.length)) then
 some (Sum.inl ((IntKind.wrap .i64 (v14+(1:Int))),(v25.take v25.length)))
 else none
 else
 au (bif (decide (v15.length<=v15.length)) then
 some (Sum.inl (v15.take v15.length))
 else none)) ((0:Int),([]:List Int))) fun v27 =>
 bif (decide (v27.length<=v27.length)) then
 some (Sum.inl (v27.take v27.length))
 else none) fun v28 =>
 aA (ay (fun v29 =>
 bif (decide (v29<(xX (a1.length:Int) (10:Int)))) then
 aA (bif (decide (v29=1)) then
 some (Sum.inl true)
 else
 bif (decide (v29=6)) then
 some (Sum.inl true)
 else
 some (Sum.inl (decide (v29=7)))) fun v30 =>
 bif v30 then
 some (Sum.inl (IntKind.wrap .i64 (v29+(1:Int))))
 else
 aA (bif (decide (v29=8)) then
 some (Sum.inl true)
 else
 some (Sum.inl (decide (v29=9)))) fun v32 =>
 bif v32 then
 bif (decide ((0<=v29)/\(v29<(a1.length:Int)))) then
 ah a1[v29.toNat]? fun x33 =>
 ah (some (IntKind.wrap .i64 (v29-(2:Int)))) fun x34 =>
 bif (decide ((0<=x34)/\(x34<(a1.length:Int)))) then
 ah a1[x34.toNat]? fun x35 =>
 bif (decide (x33≠(IntKind.wrap .u8 ((255:Int)-x35)))) then
 au (au (some false))
 else
 some (Sum.inl (IntKind.wrap .i64 (v29+(1:Int))))
 else none
 else none
 else
 bif (decide ((0<=v29)/\(v29<(a1.length:Int)))) then
 ah a1[v29.toNat]? fun x38 =>
 bif (decide ((0<=v29)/\(v29<(v28.length:Int)))) then
 ah v28[v29.toNat]? fun x39 =>
 bif (decide (x38≠x39)) then
 au (au (some false))
 else
 some (Sum.inl (IntKind.wrap .i64 (v29+(1:Int))))
 else none
 else none
 else
 au (some (Sum.inl ()))) (0:Int)) fun _ =>
 some true
def UN:List (Nat×CE):=(33,⟨[(.tmp 0 true [(.dat (.list (.int .u8))),(.dat (.int .i64)),(.dat (.int .i64))]),(.tmp 1 false [(.dat (.int .i64))])],[(.tmp 0 false [(.dat (.list (.int .u8)))])],mG⟩)::Zc
theorem IE:dZ Try.prog UN:=⟨aeG,LW⟩
theorem ahz:aV Try.prog 103 ⟨[(.tmp 0 false [(.dat (.list (.int .u8)))]),(.tmp 1 false [(.dat (.int .i64))])],[(.tmp 0 false [(.dat .bool)])],nK⟩ :=nT aeH fC IE Try.func103
def ahA:List (Nat×PL):=[(68853957121,(.carry [.tmp 6 false [(.own 10000002 53 (.pair (.int .u8) (.list (.int .u8))))],.mix 5 [(.dat (.list (.int .u8))),(.dat (.int .i64))]])),(18049651735267334,(.carry [.tmp 6 false [(.own 10000001 53 (.pair (.int .u8) (.list (.int .u8))))],.mix 5 [(.dat (.list (.int .u8))),(.dat (.int .i64))]])),(635065662727478061920772423698,(.carry [.tmp 0 true [(.dat (.int .u8)),(.dat (.list (.int .u8)))],.tmp 1 false [(.dat (.int .u8))],.mix 5 [(.dat (.list (.int .u8))),(.dat (.int .i64))]])),(1535494553643848147957046146350893561080790863294234647,(.carry [.tmp 0 false [(.own 10000007 5 (.int .u8))]])),(402520684270412928898051904989008641675962840067403847303681,(.carry [.tmp 0 false [(.own 10000006 5 (.int .u8))]])),(54025411715780160938522070313696604858113844606274311243558855903238,(.carry [.tmp 10 false [(.dat (.int .i64))],.tmp 0 false [(.own 10000005 5 (.int .u8))]])),(7251168014756594948642779955360605585369802588399192599875324273611992465921,(.carry [.tmp 0 false [(.own 10000004 5 (.int .u8))],.dead 10000005])),(255127793509833283213226307541386370055522207196370380466337639895518932455627391984994310,(.carry [.tmp 7 false [(.dat (.int .i64))],.tmp 0 false [(.own 10000003 5 (.int .u8))],.dead 10000005]))]
def qw:(List Int)->Option ((List (Int×(List Int)))×(Int×Int)):=fun a1 =>
 aA (ay (fun (v2,(v3,v4)) =>
 bif (decide (v4<(a1.length:Int))) then
 bif (decide ((v2.length:Int)>=1048576)) then
 au (au (bif (decide (v2.length<=v2.length)) then
 some ((v2.take v2.length),(v4,(5:Int)))
 else none))
 else
 aA (bif ((decide ((0<=(v3.length:Int))/\((v3.length:Int)<=(v3.length:Int))))&&((decide ((0<=(v3.length:Int))/\((v3.length:Int)<=(((Int.toNat (v3.length:Int)):Nat):Int))))&&(decide ((0<=v4)/\(v4<=(((Int.toNat (v3.length:Int)):Nat):Int)))))) then
 ah (some (List.take ((Int.toNat (v3.length:Int))-v4.toNat) (List.drop v4.toNat v3))) fun x5 =>
 ah (nK (x5,(v2.length:Int))) fun x6 =>
 bif (!x6) then
 some (Sum.inl (((0:Int),([]:List Int)),((5:Int),(v3,v4))))
 else
 bif (decide ((x5.length:Int)<10)) then
 some (Sum.inl (((0:Int),([]:List Int)),((6:Int),(v3,v4))))
 else
 bif (decide (((0:Int)<=6)/\(6<(x5.length:Int)))) then
 ah x5[6]? fun x7 =>
 bif (decide (((0:Int)<=7)/\(7<(x5.length:Int)))) then
 ah x5[7]? fun x10 =>
 ah (some (IntKind.wrap .i64 (((BitVec.toNat ((BitVec.ofInt 64 (IntKind.wrap .i64 ((IntKind.wrap .i64 x7)*(256:Int)))) ||| (BitVec.ofInt 64 (IntKind.wrap .i64 x10)))):Nat):Int))) fun x12 =>
 ah (some (IntKind.wrap .i64 ((10:Int)+x12))) fun x13 =>
 bif (decide ((x5.length:Int)<(IntKind.wrap .i64 (x13+(4:Int))))) then
 some (Sum.inl (((0:Int),([]:List Int)),((6:Int),(v3,v4))))
 else
 bif ((decide ((0<=x13)/\(x13<=(x5.length:Int))))&&(decide ((0<=x13)/\(x13<=((x13.toNat:Nat):Int))))) then
 ah (mF (List.take x13.toNat x5)) fun x16 =>
 aA (aA (ay (fun (v17,v18) =>
 bif (decide (v17<1)) then
 aA (bif (decide ((0<=v17)/\(v17<1))) then
 ah ((x16,(4:Int))::([]:List (Int×Int)))[v17.toNat]? fun x19 =>
 bif (decide (v18.length<=v18.length)) then
 ay (fun (v21,v22) =>
 bif (decide (v21>=0)) then
 ah (some (IntKind.wrap .i64 ((8:Int)*v21))) fun x23 =>
 bif (decide (0<=x23)) then
 ah (some (Int.fdiv x19.1 ((2:Int) ^ (Min.min x23.toNat 32)))) fun x24 =>
 bif (decide (v22.length<=v22.length)) then
 bif (decide (((List.length ((v22.take v22.length)++((IntKind.wrap .u8 x24)::([]:List Int))))*1)<=140737488355328)) then
 ah (some ((v22.take v22.length)++((IntKind.wrap .u8 x24)::([]:List Int)))) fun x26 =>
 bif (decide (x26.length<=x26.length)) then
 some (Sum.inl ((IntKind.wrap .i64 (v21-(1:Int))),(x26.take x26.length)))
 else none
 else none
 else none
 else none
 else
 au (bif (decide (v22.length<=v22.length)) then
 some (Sum.inl (v22.take v22.length))
 else none)) ((IntKind.wrap .i64 (x19.2-(1:Int))),(v18.take v18.length))
 else none
 else none) fun v28 =>
 bif (decide (v28.length<=v28.length)) then
 some (Sum.inl ((IntKind.wrap .i64 (v17+(1:Int))),(v28.take v28.length)))
 else none
 else
 au (bif (decide (v18.length<=v18.length)) then
 some (Sum.inl (v18.take v18.length))
 else none)) ((0:Int),([]:List Int))) fun v30 =>
 bif (decide (v30.length<=v30.length)) then
 some (Sum.inl (v30.take v30.length))
 else none) fun v31 =>
 bif (decide (v31.length<=v31.length)) then
 ah (some (IntKind.wrap .i64 (x13+(4:Int)))) fun x32 =>
 ah (some (IntKind.wrap .i64 (x13+(4:Int)))) fun x33 =>
 bif ((decide ((0<=x33)/\(x33<=(x5.length:Int))))&&((decide ((0<=x32)/\(x32<=((x33.toNat:Nat):Int))))&&(decide ((0<=x13)/\(x13<=((x32.toNat:Nat):Int)))))) then
 bif (decide ((ni (v31.take v31.length))≠(ni (List.take (x32.toNat-x13.toNat) (List.drop x13.toNat x5))))) then
 some (Sum.inl (((0:Int),([]:List Int)),((11:Int),(v3,v4))))
 else
 bif (decide ((0<=x12)/\((x12<=x12)/\(((x12*(1:Int))<=140737488355328)/\(x12<=9223372036854775807))))) then
 bif ((decide ((0<=x13)/\(x13<=(x5.length:Int))))&&((decide ((0<=x13)/\(x13<=((x13.toNat:Nat):Int))))&&(decide (((0:Int)<=10)/\(10<=((x13.toNat:Nat):Int)))))) then
 ah (some (List.take (x13.toNat-10) (x5.drop 10))) fun x35 =>
 bif (decide (x12.toNat<=(List.length (List.replicate x12.toNat (0:Int))))) then
 bif (decide (((0:Int)<=1)/\(1<(x5.length:Int)))) then
 ah x5[1]? fun x38 =>
 bif (decide (x12.toNat<=(List.length (zW (List.replicate x12.toNat (0:Int)) 0 (List.take x12.toNat x35))))) then
 some (Sum.inl ((x38,(List.take x12.toNat (zW (List.replicate x12.toNat (0:Int)) 0 (List.take x12.toNat x35)))),((0:Int),(v3,(IntKind.wrap .i64 (v4+(IntKind.wrap .i64 (x13+(4:Int)))))))))
 else none
 else none
 else none
 else none
 else none
 else none
 else none
 else none
 else none
 else none
 else none) fun ((v39,v40),(v41,(v42,v43))) =>
 bif (decide (v41≠0)) then
 au (au (bif (decide (v2.length<=v2.length)) then
 some ((v2.take v2.length),(v43,v41))
 else none))
 else
 bif (decide (v2.length<=v2.length)) then
 bif (decide (((List.length ((v2.take v2.length)++((v39,v40)::([]:List (Int×(List Int))))))*32)<=140737488355328)) then
 ah (some ((v2.take v2.length)++((v39,v40)::([]:List (Int×(List Int)))))) fun x44 =>
 bif (decide (x44.length<=x44.length)) then
 some (Sum.inl ((x44.take x44.length),(v42,v43)))
 else none
 else none
 else none
 else
 au (bif (decide (v2.length<=v2.length)) then
 some (Sum.inl ((v2.take v2.length),(v3,v4)))
 else none)) (([]:List (Int×(List Int))),(a1,(0:Int)))) fun (v45,(v46,v47)) =>
 bif (decide (v45.length<=v45.length)) then
 some ((v45.take v45.length),(v47,(0:Int)))
 else none
def Zd:List (Nat×CE):=(103,⟨[(.tmp 0 false [(.dat (.list (.int .u8)))]),(.tmp 1 false [(.dat (.int .i64))])],[(.tmp 0 false [(.dat .bool)])],nK⟩)::UN
theorem LX:dZ Try.prog Zd:=⟨ahz,IE⟩
theorem alp:aV Try.prog 34 ⟨[(.tmp 0 false [(.dat (.list (.int .u8)))])],[(.tmp 0 false [(.dat (.list (.pair (.int .u8) (.list (.int .u8)))))]),(.tmp 1 false [(.dat (.int .i64))]),(.tmp 2 false [(.dat (.int .u8))])],qw⟩ :=nT ahA fC LX Try.func34
def ahB:List (Nat×PL):=[]
def kD:(List Int)->Option (((List Int)×(Int×Int))×(List (Int×(List Int)))):=fun a1 =>
 ah (qw a1) fun (x3,(x4,x5)) =>
 bif ((decide ((0<=x4)/\(x4<=(a1.length:Int))))&&(decide ((0<=x4)/\(x4<=((x4.toNat:Nat):Int))))) then
 ah (jh ((List.take x4.toNat a1),([]:List Int))) fun x7 =>
 some ((x7,(x4,(x3.length:Int))),x3)
 else none
def ahC:List (Nat×CE):=(34,⟨[(.tmp 0 false [(.dat (.list (.int .u8)))])],[(.tmp 0 false [(.dat (.list (.pair (.int .u8) (.list (.int .u8)))))]),(.tmp 1 false [(.dat (.int .i64))]),(.tmp 2 false [(.dat (.int .u8))])],qw⟩)::Zd
theorem Xf:dZ Try.prog ahC:=⟨alp,LX⟩
theorem alq:aV Try.prog 70 ⟨[(.tmp 0 false [(.dat (.list (.int .u8)))])],[(.tmp 0 true [(.dat (.list (.int .u8))),(.dat (.int .i64)),(.dat (.int .i64))]),(.tmp 1 false [(.dat (.list (.pair (.int .u8) (.list (.int .u8)))))])],kD⟩ :=nT ahB fC Xf Try.func70
section
variable {P:Program} {GL:Nat->Option (List DV)} {q:Nat->Bool} {N:Nat} {E:En} {a:Act} {w:World} {s:S}
theorem UO {T:Ty} {rd:Nat->Option AO} {slot:Nat} {o:Oper} {ρ:Operand->AV} {f:Eff} (hf:eff T q rd slot o ρ=some f):∀c,o.op ≠ .defer c:=fun c h=>by
 unfold eff at hf;simp only [Ci,Cj,Jt,h] at hf;revert hf
 repeat' split
 all_goals simp_all
end
structure IG (P:Program) (F:Fence):Prop where
 fn:∀f,F.fn f
 dep:F.depth=none
 calls:∀ {n:Nat} {f:FuncId} {args:Array Value} {w:World} {R:Ending->World->Prop},Calls P f args w R->CallsIn F n P f args w R
theorem aoz (P:Program):IG P Fence.wide:=⟨fun _=>trivial,rfl,fun h=>callsIn_wide.2 h⟩
theorem ajw (P:Program) (l:Nat):IG P (Fence.wide.inRound l):=⟨fun _=>trivial,rfl,fun h=>CallsIn.inRound l (callsIn_wide.2 h)⟩
structure oh (df:List Deferred) (GL:Nat->Option (List DV)) (N:Nat) (E:En) (a:Act) (w:World) (s:S):Prop where
 sm:sU GL N E ⟨a.tmps,[]⟩ w s
 dq:a.defers=df
theorem alr (a:Act) (d:Option Nat) (v:Value):(⟨(a.put d v).tmps,[]⟩:Act)=(⟨a.tmps,[]⟩:Act).put d v:=by cases d<;>rfl
theorem als (a:Act) (d:Option Nat) (v:Value):(a.put d v).defers=a.defers:=by cases d<;>rfl
section
variable {df:List Deferred} {GL:Nat->Option (List DV)} {N:Nat} {E:En} {a:Act} {w:World} {s:S}
theorem oh.h (h:oh df GL N E a w s):w.heap=E.h:=h.sm.h
theorem oh.hp (h:oh df GL N E a w s):E.hp=s.hp:=h.sm.hp
theorem oh.sim (h:oh df GL N E a w s):fZ GL E:=h.sm.sim
theorem oh.ev (h:oh df GL N E a w s) (x:Operand):Rel E (s.ev GL x) (a.eval x):=h.sm.ev x
theorem oh.drew (h:oh df GL N E a w s):oh df GL N E a {w with drawn:=w.drawn+1} s:=⟨h.sm.drew,h.dq⟩
theorem oh.put (h:oh df GL N E a w s) {E':En} {w':World} {us:List (Nat×AO)} (hg:Goes GL E w us E' w') {d:Option Nat} (hd:∀t,d=some t->t<N) {v:AV} {u:Value} (hr:Rel E' v u) :
 oh df GL N E' (a.put d u) w' {(s.put d v) with hp:=dN s.hp us}:=⟨by rw [alr];exact h.sm.put hg hd hr,by rw [als];exact h.dq⟩
theorem II {ops:Array Oper} (h:oh df GL N E a w s) {o:Oper} {b:Bool} (hw:tX ops s o=some b):Region.wanted o (yielded ops a.tmps)=b:=CG h.sm hw
end
section
variable {df:List Deferred} {F:Fence} {P:Program} {GL:Nat->Option (List DV)} {q:Nat->Bool} {N:Nat} {E:En} {a:Act} {w:World} {s:S}
theorem ahD (hF:IG P F) (n:Nat) (hq:Oq P q) (hdp:30<=P.depth) (h:oh df GL N E a w s) {slot:Nat} {o:Oper} {e:Ef} (he:EfR P GL q slot o s e) (hd:∀t,o.dst=some t->t<N) {K:Act->World->Prop} {Q:Exit->Act->World->Prop}
 (hK:∀a' w' E',Goes GL E w e.upd E' w'->oh df GL N E' a' w' (s.app o.dst e)->K a' w'):o.wpIn F n P a w K Q:=by
 obtain ⟨_,he⟩:=he;refine ⟨fun f _=>hF.fn f,?_⟩;split at he
 ·rename_i f args hc;obtain ⟨_,hdo⟩:=he;obtain ⟨vs,hrun,hrel⟩:=JI (P:=P) h.sm hc;rw [show (⟨a.tmps,[]⟩:Act).eval=a.eval from rfl] at hrun;rw [Oper.semAt_eq _ _ _ (fun c hcd=>by unfold vU at hc;rw [hcd] at hc;cases hc),hrun];rcases hdo with ⟨hf,hdo⟩ | hdo
  ·rw [JJ hf];refine ⟨fun g=>(by rw [hF.dep] at g;cases g),hF.calls ((hdo E w vs (fun r _=>by rw [h.hp]) h.h h.sim hrel).mono ?_)⟩;rintro en w' ⟨u,E',rfl,hg,hr⟩;exact hK _ _ E' hg (h.put hg hd hr)
  ·obtain ⟨u,w',E',hrun2,hg,hr⟩:=hdo E w vs (fun r _=>by rw [h.hp]) h.h h.sim hrel;rw [hrun2];exact hK _ _ E' hg (h.put hg hd hr)
 ·rename_i hc;obtain ⟨f,hf,e1,e2,_,_⟩:=he;obtain ⟨n',w',E',u,hrun,hn,hg,hr⟩:=XR hq hdp h.sm hf;rw [show (⟨a.tmps,[]⟩:Act).eval=a.eval from rfl] at hrun;rw [Oper.semAt_eq _ _ _ (UO hf),hrun];rw [<-e2] at hg;rw [<-e1] at hr;rcases hn with rfl | ⟨rfl,rfl⟩
  ·exact hK _ _ E' hg (h.put hg hd hr)
  ·exact hK _ _ E' hg (h.put hg hd hr)
end
section
variable {df:List Deferred} {F:Fence} {P:Program} {GL:Nat->Option (List DV)} {q:Nat->Bool} {N base:Nat} {ops:Array Oper}
theorem UQ (hF:IG P F) (n:Nat) (hq:Oq P q) (hdp:30<=P.depth) {E0:En} {w0:World} {E:En} {a:Act} {w:World} {s:S} (hS:oh df GL N E a w s) (hA:dA E0 w0 E w) {i:Nat} {e:Ef} (h:nX P GL q N base ops i s e) {Q:Exit->Act->World->Prop} {K:Act->World->Prop}
 (hK:∀E' a' w',oh df GL N E' a' w' (s.app (pq ops i) e)->dA E0 w0 E' w'->K a' w'):wpOpIn F n P ops Q i K a w:=by
 unfold nX at h;unfold wpOpIn;split at h
 ·exact h.elim
 ·rename_i o ho;rw [ho];simp only;have hdi:pq ops i=o.dst:=by simp [pq,ho]
  rw [hdi] at hK;obtain ⟨hd,⟨hw,he⟩ | ⟨hw,rfl⟩⟩:=h
  ·rw [II hS hw,if_pos rfl];exact ahD hF n hq hdp hS he hd fun a' w' E' hg hs=>hK E' a' w' hs (hA.goes hg)
  ·rw [II hS hw,if_neg (by simp)];have:=hS.put (Goes.refl hS.h hS.sim) hd (v := .undef) (u:=undef) (by rw [Rel]);exact ⟨fun f _=>hF.fn f,hK E _ w this hA⟩
theorem Ze (hF:IG P F) (n:Nat) (hq:Oq P q) (hdp:30<=P.depth) {E0:En} {w0:World} {Q:Exit->Act->World->Prop} {s':S} (hQ:∀E' a' w',oh df GL N E' a' w' s'->dA E0 w0 E' w'->Q .normal a' w'):∀(L:List (Nat×Ef)) (E:En) (a:Act) (w:World) (s:S),Run P GL q N base ops L s s'->oh df GL N E a w s->dA E0 w0 E w->wpOpsIn F n P ops Q (L.map (·.1)) a w
 | [],E,a,w,s,hR,hS,hA=>by
   have:s=s':=hR;subst this;exact hQ E a w hS hA
 | (i,e)::L,E,a,w,s,hR,hS,hA=>by
   rw [List.map_cons,wpOpsIn_cons];exact UQ hF n hq hdp hS hA hR.1 fun E' a' w' hs ha=>Ze hF n hq hdp hQ L E' a' w' _ hR.2 hs ha
theorem Zf (hF:IG P F) (fn:Nat) (hq:Oq P q) (hdp:30<=P.depth) (hback:Ic ops=true) {E0:En} {w0:World} {Q:Exit->Act->World->Prop} {s':S} (hQ:∀E' a' w',oh df GL N E' a' w' s'->dA E0 w0 E' w'->Q .normal a' w'):∀(n:Nat) (L:List (Nat×Ef)) (listed:Array Bool) (E:En) (a:Act) (w:World) (s:S),L.length=n ->
 AP ops listed->(∀i,listed.getD i true=false/\i<ops.size↔i∈L.map (·.1))->(L.map (·.1)).Pairwise (· < ·) ->
 L.Pairwise (fun x y=>x.1∈(uM ops ops.size).getD y.1 []\/∃ox oy,ops[x.1]? = some ox/\ops[y.1]? = some oy/\ox.apart ops oy=true/\VK x.2 y.2=true) ->
 Run P GL q N base ops L s s'->oh df GL N E a w s->dA E0 w0 E w->wpAnyIn F fn P .any ops Q n listed a w
 | 0,L,listed,E,a,w,s,hn,hC,hL,hsort,hchk,hR,hS,hA=>by
   have:L=[]:=List.eq_nil_of_length_eq_zero hn;subst this;have hs:s=s':=hR;subst hs;refine ⟨?_,hQ E a w hS hA⟩;cases hr:Region.ready .any ops listed with
   | nil=>rfl
   | cons i l =>
     have hi:i∈Region.ready .any ops listed:=by rw [hr];exact List.mem_cons_self
     obtain ⟨h1,o,h2,_⟩:=mem_ready.1 hi;have:=(hL i).1 ⟨h1,(Array.getElem?_eq_some_iff.1 h2).1⟩;simp at this
 | n+1,L,listed,E,a,w,s,hn,hC,hL,hsort,hchk,hR,hS,hA=>by
   have hready:∀i,i∈Region.ready .any ops listed->i∈L.map (·.1):=fun i hi=>by
    obtain ⟨h1,o,h2,_⟩:=mem_ready.1 hi;exact (hL i).1 ⟨h1,(Array.getElem?_eq_some_iff.1 h2).1⟩
   refine ⟨fun h0 => ?_,fun i hi => ?_⟩
   ·exfalso;cases L with
    | nil=>simp at hn
    | cons x L =>
      obtain ⟨i,e⟩:=x;obtain ⟨hun,hlt⟩:=(hL i).2 (by simp);have hrd:i∈Region.ready .any ops listed:=by
       refine mem_ready.2 ⟨hun,ops[i],Array.getElem?_eq_getElem hlt,fun ed hed hb => ?_⟩;have hp:ed.on∈oD ops i:=by
        unfold oD;rw [Array.getElem?_eq_getElem hlt];exact List.mem_map.2 ⟨ed,List.mem_filter.2 ⟨by simpa using hed,hb⟩,rfl⟩
       have hlt2:ed.on<i:=by
        have:=List.all_eq_true.1 hback i (List.mem_range.2 hlt);have:=List.all_eq_true.1 this _ hp;simpa using this
       cases hg:listed.getD ed.on false with
       | true=>rfl
       | false =>
         have hnot:ed.on∉List.map (·.1) ((i,e)::L):=fun hm=>by
          rcases List.mem_cons.1 hm with h | h
          ·simp at h;omega
          ·have:=(List.pairwise_cons.1 hsort).1 _ h;simp at this;omega
         have h6:¬(listed.getD ed.on true=false/\ed.on<ops.size):=fun h=>hnot ((hL ed.on).1 h);have:listed.getD ed.on true=true:=by
          cases h7:listed.getD ed.on true with
          | true=>rfl
          | false=>exact (h6 ⟨h7,by omega⟩).elim
         have hsz:ed.on<listed.size:=by
          have h8:i<listed.size:=by
           rcases Nat.lt_or_ge i listed.size with h | h
           ·exact h
           ·rw [Array.getD_eq_getD_getElem?,Array.getElem?_eq_none h] at hun;simp at hun
          omega
         rw [Array.getD_eq_getD_getElem?,Array.getElem?_eq_getElem hsz] at this hg;simp at this hg;rw [this] at hg;cases hg
      rw [h0] at hrd;cases hrd
   ·obtain ⟨⟨i',e⟩,hmem,rfl⟩:=List.mem_map.1 (hready i hi);simp only at hi ⊢;obtain ⟨l1,l2,rfl⟩:=List.append_of_mem hmem;obtain ⟨_,oi,hoi,_⟩:=mem_ready.1 hi;have hun:∀j,j∈(l1++(i',e)::l2).map (·.1)->listed.getD j false=false:=fun j hj=>by
     obtain ⟨h1,h2⟩:=(hL j).2 hj;rcases Nat.lt_or_ge j listed.size with h | h
     ·rw [Array.getD_eq_getD_getElem?,Array.getElem?_eq_getElem h] at h1 ⊢;simpa using h1
     ·rw [Array.getD_eq_getD_getElem?,Array.getElem?_eq_none h] at h1;simp at h1
    have hall:∀j ej,(j,ej)∈l1->∃oj,ops[j]? = some oj/\oj.apart ops oi=true/\VK ej e=true:=fun j ej hj=>by
     have hpw:=(List.pairwise_append.1 hchk).2.2 (j,ej) hj (i',e) List.mem_cons_self;rcases hpw with hanc | ⟨ox,oy,h1,h2,h3,h4⟩
     ·have:=vW hC _ _ _ (uN hi) hanc;rw [hun j (List.mem_map.2 ⟨_,List.mem_append_left _ hj,rfl⟩)] at this;cases this
     ·simp only at h1 h2;rw [hoi] at h2;cases h2;exact ⟨ox,h1,h3,h4⟩
    obtain ⟨g1,g2⟩:=bubble hoi l1 l2 s s' hall hR;refine UQ hF fn hq hdp hS hA g1 fun E' a' w' hs ha => ?_;refine Zf hF fn hq hdp hback hQ n (l1++l2) _ E' a' w' _ (by simp at hn ⊢;omega) (hC.set hi) (fun j => ?_) ?_ ?_ g2 hs ha
    ·have hnd:∀k,k∈(l1++l2).map (·.1)->k≠i':=fun k hk e0=>by
      subst e0;rw [List.map_append,List.map_cons] at hsort;rw [List.map_append] at hk;rcases List.mem_append.1 hk with hk | hk
      ·have:=(List.pairwise_append.1 hsort).2.2 k hk k List.mem_cons_self;omega
      ·have:=(List.pairwise_cons.1 (List.pairwise_append.1 hsort).2.1).1 k hk;omega
     by_cases hji:i'=j
     ·subst hji;constructor
      ·rintro ⟨h1,h2⟩;have hsz:i'<listed.size:=by
        rcases Nat.lt_or_ge i' listed.size with h | h
        ·exact h
        ·have:=(mem_ready.1 hi).1;rw [Array.getD_eq_getD_getElem?,Array.getElem?_eq_none h] at this;simp at this
       rw [Array.getD_eq_getD_getElem?,Array.getElem?_setIfInBounds_self_of_lt hsz] at h1;simp at h1
      ·intro h;exact (hnd _ h rfl).elim
     ·rw [getD_set_ne true hji];rw [hL j];simp only [List.map_append,List.map_cons,List.mem_append,List.mem_cons];constructor
      ·rintro (h | h | h)
       ·exact .inl h
       ·exact (hji h.symm).elim
       ·exact .inr h
      ·rintro (h | h)
       ·exact .inl h
       ·exact .inr (.inr h)
    ·rw [List.map_append] at hsort ⊢;rw [List.map_cons] at hsort;obtain ⟨p1,p2,p3⟩:=List.pairwise_append.1 hsort;exact List.pairwise_append.2 ⟨p1,(List.pairwise_cons.1 p2).2,fun x hx y hy=>p3 x hx y (List.mem_cons_of_mem _ hy)⟩
    ·obtain ⟨p1,p2,p3⟩:=List.pairwise_append.1 hchk;exact List.pairwise_append.2 ⟨p1,(List.pairwise_cons.1 p2).2,fun x hx y hy=>p3 x hx y (List.mem_cons_of_mem _ hy)⟩
end
def N8 (df:List Deferred) (F:Fence) (n:Nat) (P:Program) (GL:Nat->Option (List DV)) (N:Nat) (hp0:Nat->Option AO) (c:Code) (Q:Exit->S->Prop) (s:S):Prop :=
 ∀(E0:En) (w0:World) (E:En) (a:Act) (w:World),E0.hp=hp0->oh df GL N E a w s->dA E0 w0 E w->c.wpIn F n P (fun x a' w'=>∃s' E',Q x s'/\oh df GL N E' a' w' s'/\dA E0 w0 E' w') a w
section
variable {df:List Deferred} {F:Fence} {n:Nat} {P:Program} {GL:Nat->Option (List DV)} {q:Nat->Bool} {N:Nat} {hp0:Nat->Option AO} {Q Q':Exit->S->Prop} {s:S}
theorem N8.mono {c:Code} (h:N8 df F n P GL N hp0 c Q s) (hq:∀e s,Q e s->Q' e s):N8 df F n P GL N hp0 c Q' s :=
 fun E0 w0 E a w h0 hS hA=>wpIn_mono (h E0 w0 E a w h0 hS hA) fun e a w ⟨s',E',h1,h2⟩=>⟨s',E',hq _ _ h1,h2⟩
theorem aeI (h:Q .normal s):N8 df F n P GL N hp0 .skip Q s:=fun E0 w0 E a w h0 hS hA=>wpIn_skip ⟨s,E,h,hS,hA⟩
theorem aeJ {id:Nat} (h:Q (.exit id) s):N8 df F n P GL N hp0 (.exit id) Q s:=fun E0 w0 E a w h0 hS hA=>wpIn_exit ⟨s,E,h,hS,hA⟩
theorem ahE (h:Q .ret s):N8 df F n P GL N hp0 .ret Q s:=fun E0 w0 E a w h0 hS hA=>wpIn_ret ⟨s,E,h,hS,hA⟩
theorem ahF {x y:Code} (h:N8 df F n P GL N hp0 x (aaw (N8 df F n P GL N hp0 y Q) Q) s):N8 df F n P GL N hp0 (.seq x y) Q s:=fun E0 w0 E a w h0 hS hA=>by
 refine wpIn_seq (wpIn_mono (h E0 w0 E a w h0 hS hA) fun e a' w' ⟨s',E',h1,h2,h3⟩ => ?_);cases e<;>first | exact h1 E0 w0 E' a' w' h0 h2 h3 | exact ⟨s',E',h1,h2,h3⟩
theorem aeK {c:Operand} {x y:Code} {b:Bool} (hc:s.ev GL c = .d (.val (.bool b))) (h1:b=true->N8 df F n P GL N hp0 x Q s) (h2:b=false->N8 df F n P GL N hp0 y Q s):N8 df F n P GL N hp0 (.cond c x y) Q s:=fun E0 w0 E a w h0 hS hA=>by
 have hr:=hS.ev c;rw [hc] at hr;refine wpIn_cond (bf hr) ?_;cases b with
 | true=>exact h1 rfl E0 w0 E a w h0 hS hA
 | false=>exact h2 rfl E0 w0 E a w h0 hS hA
theorem ahG {c:Operand} {x y:Code} (hc:s.ev GL c = .ab) (h1:N8 df F n P GL N hp0 x Q s) (h2:N8 df F n P GL N hp0 y Q s):N8 df F n P GL N hp0 (.cond c x y) Q s:=fun E0 w0 E a w h0 hS hA=>by
 have hr:=hS.ev c;rw [hc,Rel] at hr;obtain ⟨b,hb⟩:=hr;refine wpIn_cond hb ?_;cases b with
 | true=>exact h1 E0 w0 E a w h0 hS hA
 | false=>exact h2 E0 w0 E a w h0 hS hA
theorem abh {id:Nat} {c:Code} (h:N8 df F n P GL N hp0 c (Tj id Q) s):N8 df F n P GL N hp0 (.block id c) Q s:=fun E0 w0 E a w h0 hS hA=>by
 refine wpIn_block (wpIn_mono (h E0 w0 E a w h0 hS hA) fun e a' w' ⟨s',E',h1,h2,h3⟩ => ?_);cases e with
 | exit i =>
   simp only [Tj,Exit.inBlock] at h1 ⊢;by_cases hi:i=id
   ·rw [if_pos hi] at h1 ⊢;exact ⟨s',E',h1,h2,h3⟩
   ·rw [if_neg hi] at h1 ⊢;exact ⟨s',E',h1,h2,h3⟩
 | _=>exact ⟨s',E',h1,h2,h3⟩
end
section
variable {df:List Deferred} {F:Fence} {n:Nat} {P:Program} {GL:Nat->Option (List DV)} {q:Nat->Bool} {N:Nat} {ops:Array Oper} {draw:Bool} {anc:List (List Nat)} {hp0:Nat->Option AO}
theorem Xg (hF:IG P F) (hq:Oq P q) (hdp:30<=P.depth) (hm:P.follows .mixedOrders=true) {id:Nat} {Q:Exit->S->Prop} {s:SL} (hback:draw=true->Ic ops=true) (hanc:draw=true->anc=uM ops ops.size) {C:Qh} (hC:∀f args rds v us hp,C.D f args rds v us hp->DX P GL f args rds v us hp) {K:SL->Prop} (hK:∀s',K s'->Q .normal s'.S)
 (h:NW C (aS P) GL q N (D6 id) ops draw anc K (List.range ops.size) s []):N8 df F n P GL N hp0 (.region id ops draw) Q s.S:=fun E0 w0 E a w h0 hS hA=>by
 obtain ⟨L,s',g1,g2,g3,g4,g5⟩:=zO hanc hC _ _ _ h;have hQ:∀E' a' w',oh df GL N E' a' w' s'.S->dA E0 w0 E' w'->(fun (x:Exit) (a':Act) (w':World)=>∃s' E',Q x s'/\oh df GL N E' a' w' s'/\dA E0 w0 E' w') .normal a' w':=fun E' a' w' h1 h2=>⟨s'.S,E',hK _ g3,h1,h2⟩
 cases draw with
 | false =>
   refine wpIn_region ?_;rw [<-g1];exact Ze hF n (P:=P) (Q:=fun (x:Exit) (a':Act) (w':World)=>∃s' E',Q x s'/\oh df GL N E' a' w' s'/\dA E0 w0 E' w') hq hdp hQ L E a w s.S g2 hS hA
 | true =>
   refine wpIn_region_any hm ?_;have hlen:L.length=ops.size:=by
    have:=congrArg List.length g1;simpa using this
   have:=Zf hF n (P:=P) (Q:=fun (x:Exit) (a':Act) (w':World)=>∃s' E',Q x s'/\oh df GL N E' a' w' s'/\dA E0 w0 E' w') hq hdp (hback rfl) hQ ops.size L (Array.replicate ops.size false) E a {w with drawn:=w.drawn+1} s.S hlen
    (fun j hj=>by
      exfalso;rw [Array.getD_eq_getD_getElem?] at hj;rcases Nat.lt_or_ge j ops.size with hlt | hge
      ·rw [Array.getElem?_replicate,if_pos hlt] at hj;simp at hj
      ·rw [Array.getElem?_replicate,if_neg (by omega)] at hj;simp at hj)
    (fun i=>by
      rw [g1,List.mem_range];constructor
      ·exact fun h=>h.2
      ·intro hi;refine ⟨?_,hi⟩;rw [Array.getD_eq_getD_getElem?,Array.getElem?_replicate,if_pos hi];rfl)
    (by rw [g1];exact List.pairwise_lt_range) (g5 rfl) g2 hS.drew hA.drew
   exact this
def nsB:Code->Bool
 | .seq a b=>nsB a&&nsB b
 | .cond _ t e=>nsB t&&nsB e
 | .block _ c=>nsB c
 | .skip=>true
 | .region _ _ _=>true
 | .exit _=>true
 | .ret=>true
 | _=>false
end
section
variable {df:List Deferred} {F:Fence} {P:Program} {T:Ty} {GL:Nat->Option (List DV)} {q:Nat->Bool} {N:Nat} {hp0:Nat->Option AO}
theorem iZ (hF:IG P F) (n:Nat) (hq:Oq P q) (hdp:30<=P.depth) (hm:P.follows .mixedOrders=true) (hT:aS P=T):∀(c:Code) (Q:Exit->SL->Prop) (s:SL),nsB c=true->kR (yV P GL N hp0) T GL q N c Q s->N8 df F n P GL N hp0 c (LQ Q) s.S
 | .skip,Q,s,_,h=>aeI ⟨s,rfl,h⟩
 | .region id ops draw,Q,s,_,h=>by
   rw [kR] at h;subst hT;split at h
   ·rename_i hb;exact Xg hF hq hdp hm (AU hb) (fun hd=>by rw [hd];rfl) (fun f args rds v us hp h=>h) (fun s' hs=>⟨s',rfl,hs⟩) h
   ·exact h.elim
 | .seq a b,Q,s,hn,h=>by
   rw [kR] at h;rw [nsB,Bool.and_eq_true] at hn;refine ahF (N8.mono (iZ hF n hq hdp hm hT a _ s hn.1 h) fun e s' ⟨sl,h1,h2⟩ => ?_);subst h1;cases e with
   | normal=>exact iZ hF n hq hdp hm hT b Q sl hn.2 h2
   | _=>exact ⟨sl,rfl,h2⟩
 | .cond c t e,Q,s,hn,h=>by
   rw [kR] at h;rw [nsB,Bool.and_eq_true] at hn;split at h
   ·rename_i b hb;refine aeK (by rw [SL.ev_S];exact hb) (fun hb => ?_) (fun hb => ?_)
    ·subst hb;exact iZ hF n hq hdp hm hT t Q s hn.1 h
    ·subst hb;exact iZ hF n hq hdp hm hT e Q s hn.2 h
   ·rename_i hb;exact ahG (by rw [SL.ev_S];exact hb) (iZ hF n hq hdp hm hT t Q s hn.1 h.1) (iZ hF n hq hdp hm hT e Q s hn.2 h.2)
   ·exact h.elim
 | .block id c,Q,s,hn,h=>by
   rw [kR] at h;refine abh (N8.mono (iZ hF n hq hdp hm hT c _ s hn h) fun e s' ⟨sl,h1,h2⟩ => ?_);subst h1;cases e with
   | exit i =>
     simp only [Tj] at h2 ⊢;by_cases hi:i=id
     ·rw [if_pos hi] at h2 ⊢;exact ⟨sl,rfl,h2⟩
     ·rw [if_neg hi] at h2 ⊢;exact ⟨sl,rfl,h2⟩
   | _=>exact ⟨sl,rfl,h2⟩
 | .exit id,Q,s,_,h=>aeJ ⟨s,rfl,h⟩
 | .ret,Q,s,_,h=>ahE ⟨s,rfl,h⟩
 | .label l,Q,s,hn,h=>by cases hn
 | .loop c,Q,s,hn,h=>by cases hn
 | .rangeFunc _ _ _ _,Q,s,_,h=>h.elim
 | .scope c,Q,s,hn,h=>by cases hn
 | .goto _,Q,s,_,h=>h.elim
 | .refuse _,Q,s,_,h=>h.elim
end
end Go.Proofs.Ytkpijdndakljjaa

namespace Go.Proofs.Ytkpijdndakljjaa
open Go.RowKit Go.Shelf
attribute [local go_sem] Oper.semAt_some
def sZ (at0 first step:Int):Nat->Int
 | 0=>at0
 | k+1=>wrap64 (sZ at0 first step k+wrap64 (1000*(if k=0 then first else step)))
set_option maxRecDepth 100000 in
set_option maxHeartbeats 1000000 in
theorem ahH (m l ba bn br:Nat) (at0 first step:Int) (n:Nat) (hn:(n:Int)<=4000000000000000000) (I:Nat->World->Prop)
 (hc:∀k W,I k W->W.cell? ⟨ba,0,none⟩=some (.int .i64 at0)/\W.cell? ⟨bn,0,none⟩=some (.int .i64 n)/\W.cell? ⟨br,2,none⟩=some (.int .i64 first)/\W.cell? ⟨br,3,none⟩=some (.int .i64 step))
 (hY:∀k W,k<n->I k W->YieldAt Fence.wide (m-1) Try.prog l #[.int .i64 k,.int .i64 (sZ at0 first step k)] W fun e W'=>e = .returned (.bool true)/\I (k+1) W')
 (W:World) (h0:I 0 W):CallsIn Fence.wide m Try.prog 126 #[.func (.yield l) #[] #[],.pointer (some ⟨ba,0,none⟩),.pointer (some ⟨bn,0,none⟩),.pointer (some ⟨br,0,none⟩)] W fun e W'=>(∃v,e = .returned v)/\I n W':=by
 refine callsIn_of_wp Try.func126 rfl trivial ?_ rfl;simp only [Try.ntmps126,List.size_toArray,List.length_cons,List.length_nil,Nat.reduceAdd,Nat.reduceSub,Array.replicate_succ,Array.replicate_zero,List.push_toArray,List.append_toArray,List.nil_append,List.cons_append];obtain ⟨c1,c2,c3,c4⟩:=hc 0 W h0
 gi_wp2
 gi_loopw [5,9] (fun p5 p9 wr=>∃k:Nat,p5 = .int .i64 (sZ at0 first step k)/\p9 = .int .i64 k/\k<=n/\I k wr)
  (fun p5 p9 wr=>n-(intOf p9).toNat)
 case atStart =>
  exact ⟨0,rfl,rfl,Nat.zero_le _,h0⟩
 case round =>
  obtain ⟨k,rfl,rfl,hk,hI⟩:=hrel;obtain ⟨c1,c2,c3,c4⟩:=hc k wr hI;by_cases hlt:k<n
  ·have hlt':(k:Int)<(n:Int):=by omega
   obtain ⟨fn,tmps,assign,body,hy,hR⟩:=hY k wr hlt hI
   gi_wp2
   refine ⟨fun g=>(by cases g),hR.mono ?_⟩;rintro e W3 ⟨rfl,hI3⟩;obtain ⟨d1,d2,d3,d4⟩:=hc (k+1) W3 hI3
   gi_wp2
   ·rename_i hb;have hk0:k=0:=by simpa using hb
    exact ⟨⟨k+1,by rw [sZ,if_pos hk0],rfl,by omega,hI3⟩,by simp only [intOf];omega⟩
   ·rename_i hb;have hk0:¬k=0:=by simpa using hb
    exact ⟨⟨k+1,by rw [sZ,if_neg hk0],rfl,by omega,hI3⟩,by simp only [intOf];omega⟩
  ·have hge:(n:Int)<=(k:Int):=by omega
   gi_wp2
   go_end0
   exact ⟨⟨_,rfl⟩,by rw [show n=k from by omega];exact hI⟩
end Go.Proofs.Ytkpijdndakljjaa

namespace Go.Proofs.Ytkpijdndakljjaa
open Go.RowKit
set_option maxHeartbeats 4000000
set_option maxRecDepth 10000
def nest:List Code->Code->Code
 | [],c=>c
 | x::xs,c => .seq x (nest xs c)
def spine:Nat->Code->List Code×Code
 | n+1,.seq a b=>(a::(spine n b).1,(spine n b).2)
 | _,c=>([],c)
theorem LY:∀(n:Nat) (c:Code),nest (spine n c).1 (spine n c).2=c
 | 0,c=>by cases c<;>rfl
 | n+1,.seq a b=>by
   show Code.seq a (nest (spine n b).1 (spine n b).2)=_;rw [LY n b]
 | _+1,.skip=>rfl
 | _+1,.region _ _ _=>rfl
 | _+1,.cond _ _ _=>rfl
 | _+1,.block _ _=>rfl
 | _+1,.loop _=>rfl
 | _+1,.exit _=>rfl
 | _+1,.ret=>rfl
 | _+1,.label _=>rfl
 | _+1,.goto _=>rfl
 | _+1,.scope _=>rfl
 | _+1,.refuse _=>rfl
 | _+1,.rangeFunc _ _ _ _=>rfl
def alu (n:Nat) (c:Code):List Code:=(spine n c).1++(match (spine n c).2 with | .seq (.seq y _) _=>[y] | _=>[])
section
variable (p:Pr) (C:Qh) (T:Ty) (GL:Nat->Option (List DV)) (q:Nat->Bool) (N:Nat) (Z:SL->Prop)
def mW:List Code->(Exit->SL->Prop)->SL->Prop
 | [],_,s=>Z s
 | x::xs,Q,s=>lq p C T GL q N x (aaw (fun s'=>mW xs Q s') Q) s
end
section
variable {P:Program} {L:List (List (Option TI))} {cs:List Nat} {N:Nat} {hp0:Nat->Option AO}
theorem EK (K:Facts P L cs) {Z:SL->Prop} {Q:Exit->SL->Prop} {E0:En} {w0:World} (h0:E0.hp=hp0) {Qc:Exit->Act->World->Prop} {rest:Code}
 (hZ:∀s' E a w,Z s'->sU iY N E a w s'.S->dA E0 w0 E w->rest.wp P Qc a w) (hQ:∀e s' E a w,e ≠ .normal->Q e s'->sU iY N E a w s'.S->dA E0 w0 E w->Qc e a w) :
 ∀(xs:List Code) (s:SL),mW real (yV P iY N hp0) (xw (aS P) L) iY (qOf cs) N Z xs Q s->∀E a w,sU iY N E a w s.S->dA E0 w0 E w->(nest xs rest).wp P Qc a w
 | [],s,h,E,a,w,hS,hA=>hZ s E a w h hS hA
 | x::xs,s,h,E,a,w,hS,hA=>by
   unfold mW at h;rw [iI] at h;refine wp_seq (wp_mono (je K.hq K.hdp K.hm K.hT x _ s h E0 w0 E a w h0 hS hA) fun e a' w' ⟨s',E',⟨sl,h1,h2⟩,h3,h4⟩ => ?_);subst h1;cases e with
   | normal=>exact EK K h0 hZ hQ xs sl h2 E' a' w' h3 h4
   | _=>exact hQ _ sl E' a' w' (by simp) h2 h3 h4
end
abbrev UP:U := .pair (.pair (.int .u8) (.pair (.int .i64) (.int .i64))) (.pair (.int .i64) (.int .i64))
abbrev UR:U := .pair .str (.pair (.int .i64) (.pair (.int .i64) (.pair (.int .i64) (.list UP))))
abbrev uf:=(Int×(Int×Int))×(Int×Int)
abbrev Ra:=List UInt8×(Int×(Int×(Int×List uf)))
section
variable {rd:Nat->Option AO}
theorem yM {rs:List Ra} {fr:Int} {x:Bool} {cells:List DV} {n:Nat} (h:aW (rs,fr)=some x) (hc:aI UR rs=cells) (hn:rs.length=n):∃c:Unit,True/\Does Try.prog iY 61 [.agg [.d (.dl cells n none),.d (.val (.int .i64 fr))]] [] (.d (.val (.bool x))) [] rd:=by
 subst hc hn;exact ⟨(),trivial,uy (Y0.2 (rs,fr) x h) rfl⟩
theorem nM {a b c:Int} {x:Bool} (h:aU (a,(b,c))=some x):∃c':Unit,True/\Does Try.prog iY 86 [.d (.val (.int .i64 a)),.d (.val (.int .i64 b)),.d (.val (.int .i64 c))] [] (.d (.val (.bool x))) [] rd :=
 ⟨(),trivial,uy (ajv.2 (a,(b,c)) x h) rfl⟩
theorem BF {a b x:Int} (h:bW (a,b)=some x):∃c':Unit,True/\Does Try.prog iY 76 [.d (.val (.int .i64 a)),.d (.val (.int .i64 b))] [] (.d (.val (.int .i64 x))) [] rd :=
 ⟨(),trivial,uy (UH.2 (a,b) x h) rfl⟩
theorem Xh {rs:List Ra} {fr:Int} {num:List UInt8} {x:Int×Bool} {cells:List DV} {n:Nat} {nb:ByteArray} (h:gX ((rs,fr),num)=some x) (hc:aI UR rs=cells) (hn:rs.length=n) (hb:(⟨num.toArray⟩:ByteArray)=nb):∃c:Unit,True/\Does Try.prog iY 104 [.agg [.d (.dl cells n none),.d (.val (.int .i64 fr))],.d (.val (.string nb))] [] (.tup [.d (.val (.int .i64 x.1)),.d (.val (.bool x.2))]) [] rd:=by
 subst hc hn hb;exact ⟨(),trivial,uy (aew.2 ((rs,fr),num) x h) rfl⟩
theorem UU {R:Ra} {fr se x rc rf iH:Int} {rb:ByteArray} {cells:List DV} {n:Nat} (h:jL (R,(fr,se))=some x) (hrb:(⟨R.1.toArray⟩:ByteArray)=rb) (hrc:R.2.1=rc) (hrf:R.2.2.1=rf) (hrst:R.2.2.2.1=iH) (hc:aI UP R.2.2.2.2=cells) (hn:R.2.2.2.2.length=n):∃c:Unit,True/\Does Try.prog iY 105 [.agg [.d (.val (.string rb)),.d (.val (.int .i64 rc)),.d (.val (.int .i64 rf)),.d (.val (.int .i64 iH)),.d (.dl cells n none)],.d (.val (.int .i64 fr)),.d (.val (.int .i64 se))] [] (.d (.val (.int .i64 x))) [] rd:=by
 subst hrb hrc hrf hrst hc hn;exact ⟨(),trivial,uy (ali.2 (R,(fr,se)) x h) rfl⟩
theorem PE {l:List uf} {a x:Int} {cells:List DV} {n:Nat} (h:fU (l,a)=some x) (hc:aI UP l=cells) (hn:l.length=n):∃c:Unit,True/\Does Try.prog iY 107 [.d (.dl cells n none),.d (.val (.int .i64 a))] [] (.d (.val (.int .i64 x))) [] rd:=by
 subst hc hn;exact ⟨(),trivial,uy (aey.2 (l,a) x h) rfl⟩
end
theorem aeL {α:Type} {l:List α} {i:Nat} (d:α) (h1:i<l.length):l.getD i d=l[i]:=by rw [List.getD_eq_getElem?_getD,List.getElem?_eq_getElem h1];rfl
theorem aoA {rb:ByteArray} {rc rf iH at0 np:Int} {pcells:List DV} {pn:Nat}:fB Try.prog iY 106 [.agg [.d (.val (.string rb)),.d (.val (.int .i64 rc)),.d (.val (.int .i64 rf)),.d (.val (.int .i64 iH)),.d (.dl pcells pn none)],.d (.val (.int .i64 at0)),.d (.val (.int .i64 np))] []
 (.clo 126 [.ptr 7 0,.ptr 8 0,.ptr 9 0]) [(7,.mix [.d (.val (.int .i64 at0))]),(8,.mix [.d (.val (.int .i64 np))]),(9,.mix [.d (.val (.string rb)),.d (.val (.int .i64 rc)),.d (.val (.int .i64 rf)),.d (.val (.int .i64 iH)),.d (.dl pcells pn none)])]:=by
 refine mZ KK (fn:=Try.f106) Try.func106 rfl (by show 3<=_;decide) ?_;intro C F p hC hF hp
 conv=>cbv
 exact qh [(7,1001),(8,1002),(9,1000)] rfl rfl ⟨⟨rfl,rfl,rfl⟩,⟨rfl,rfl,rfl⟩,⟨rfl,rfl,rfl⟩,trivial⟩ rfl rfl
theorem aoB {rb:ByteArray} {rc rf iH at0 np:Int} {pcells:List DV} {pn:Nat} {rd:Nat->Option AO} (h7:rd 7=none) (h8:rd 8=none) (h9:rd 9=none):∃c:Unit,True/\Does Try.prog iY 106 [.agg [.d (.val (.string rb)),.d (.val (.int .i64 rc)),.d (.val (.int .i64 rf)),.d (.val (.int .i64 iH)),.d (.dl pcells pn none)],.d (.val (.int .i64 at0)),.d (.val (.int .i64 np))] [7,8,9]
 (.clo 126 [.ptr 7 0,.ptr 8 0,.ptr 9 0]) [(7,.mix [.d (.val (.int .i64 at0))]),(8,.mix [.d (.val (.int .i64 np))]),(9,.mix [.d (.val (.string rb)),.d (.val (.int .i64 rc)),.d (.val (.int .i64 rf)),.d (.val (.int .i64 iH)),.d (.dl pcells pn none)])] rd :=
 ⟨(),trivial,qN aoA (fun x hx=>by cases hx) rfl rfl (fun x hx=>by
   rcases List.mem_cons.1 hx with rfl | hx
   ·exact ⟨by simp,.inl h7⟩
   ·rcases List.mem_cons.1 hx with rfl | hx
    ·exact ⟨by simp,.inl h8⟩
    ·rcases List.mem_cons.1 hx with rfl | hx
     ·exact ⟨by simp,.inl h9⟩
     ·cases hx) rfl⟩
def GH (rb:ByteArray) (rc rf iH at0 np:Int) (pcells:List DV) (pn:Nat) (sum:Int):SL :=
 ⟨87,[(13,.ptr 5 0),(15,.ptr 6 0),(65,.clo 126 [.ptr 7 0,.ptr 8 0,.ptr 9 0])],
   [(5,.mix [.d (.val (.string rb)),.d (.val (.int .i64 rc)),.d (.val (.int .i64 rf)),.d (.val (.int .i64 iH)),.d (.dl pcells pn none)]),(6,.mix [.d (.val (.int .i64 sum))]),(7,.mix [.d (.val (.int .i64 at0))]),(8,.mix [.d (.val (.int .i64 np))]),(9,.mix [.d (.val (.string rb)),.d (.val (.int .i64 rc)),.d (.val (.int .i64 rf)),.d (.val (.int .i64 iH)),.d (.dl pcells pn none)])]⟩
theorem alv {rs:List Ra} {fr:Int} {num:List UInt8} {a b:Int} {cells:List DV} {n:Nat} {nb:ByteArray} (hcr:aI UR rs=cells) (hnr:rs.length=n) (hnb:(⟨num.toArray⟩:ByteArray)=nb) (hV:aW (rs,fr)=some true)
 (h1:aU (a,(0,281474976710656))=some true) (h2:aU (b,(a,281474976710656))=some true) {se:Int} (h3:bW (a,b)=some se) (h4:se<=1000000) {ix:Int} (hF:gX ((rs,fr),num)=some (ix,true)) {i:Nat} (hix:ix=(i:Int)) (hin:i<n) {R:Ra} (hR:rs.getD i ([],(0,(0,(0,[]))))=R) {rb:ByteArray} {rc rf iH:Int} {pl:List uf} {pcells:List DV} {pn:Nat} (hrb:(⟨R.1.toArray⟩:ByteArray)=rb) (hrc:R.2.1=rc) (hrf:R.2.2.1=rf) (hrst:R.2.2.2.1=iH) (hcp:aI UP R.2.2.2.2=pcells) (hnp:R.2.2.2.2.length=pn)
 {np:Int} (hPi:jL (R,(fr,se))=some np) (hnp0:np≠0) {at0:Int} (hat:at0=IntKind.wrap .i64 (a+IntKind.wrap .i64 (1000*fr)))
 {C:Qh} {F:Ty} {p:Pr} (hC:C=yV Try.prog iY 87 (aJ [])) (hF':F=aS Try.prog) (hp:p=real) :
 mW p C (xw F yC) iY (qOf xC) 87 (fun s=>uP iY 87 (aJ []) s.S (GH rb rc rf iH at0 np pcells pn rc).S) (alu 11 (Try.f77.body.getD .skip)) (fun _ _=>False) ⟨87,jw 0 [.agg [.d (.dl cells n none),.d (.val (.int .i64 fr))],.d (.val (.string nb)),.d (.val (.int .i64 a)),.d (.val (.int .i64 b))],[]⟩:=by
 have hemp:p.emp cells=false:=Qq hp (by rw [<-hcr,bI,hnr];show 0<n*5;omega);have hrow:p.cells cells (p.nm i 5) 5=some [.d (.val (.string rb)),.d (.val (.int .i64 rc)),.d (.val (.int .i64 rf)),.d (.val (.int .i64 iH)),.d (.dl pcells pn none)]:=by
  have hi:i<rs.length:=by omega
  rw [JY hp (f:=gU UR) (s:=5) (fun x=>bU UR x) hi hcr,<-aeL ([],(0,(0,(0,[])))) hi,hR,<-hrb,<-hrc,<-hrf,<-hrst,<-hcp,<-hnp];rfl
 have eat:p.ar .add .i64 a (p.ar .mul .i64 1000 fr)=at0:=by rw [hp];exact hat.symm
 conv=>cbv
 refine ig hC (by kernel_rfl) (yM hV hcr hnr) ?_;rintro _ _;refine ⟨by decide_cbv,?_⟩
 conv=>cbv
 refine ig hC (by kernel_rfl) (nM (by assumption)) ?_;rintro _ _;refine ⟨by decide_cbv,?_⟩
 conv=>cbv
 refine ig hC (by kernel_rfl) (nM (by assumption)) ?_;rintro _ _;refine ⟨by decide_cbv,?_⟩
 conv=>cbv
 refine ig hC (by kernel_rfl) (BF (by assumption)) ?_;rintro _ _;refine ⟨by decide_cbv,?_⟩
 conv=>cbv
 have e6:(p.cmp .gtr se 1000000)=false:=by rw [pz hp];exact decide_eq_false (by omega)
 simp only [e6];clear e6
 conv=>cbv
 refine ig hC (by kernel_rfl) (Xh hF hcr hnr hnb) ?_;rintro _ _;refine ⟨by decide_cbv,?_⟩
 conv=>cbv
 obtain ⟨j8,hj8,lj8,ej8⟩:=Ya (i:=ix) (n:=n) hp (by omega) (by omega);simp only [ej8]
 conv=>cbv
 simp only [hemp]
 conv=>cbv
 simp only [hemp]
 conv=>cbv
 obtain rfl:j8=i:=by omega
 simp only [hemp,hrow]
 conv=>cbv
 refine ig hC (by kernel_rfl) (UU hPi hrb hrc hrf hrst hcp hnp) ?_;rintro _ _;refine ⟨by decide_cbv,?_⟩
 conv=>cbv
 have e11:(p.cmp .eql np 0)=false:=by rw [kU hp];exact decide_eq_false (by omega)
 simp only [e11];clear e11
 conv=>cbv
 obtain ⟨z12,ez12⟩:∃z,(p.ar .mul .i64 1000 fr)=z:=⟨_,rfl⟩
 simp only [ez12]
 conv=>cbv
 obtain ⟨z13,ez13⟩:∃z,(p.ar .add .i64 a z12)=z:=⟨_,rfl⟩
 simp only [ez13]
 conv=>cbv
 refine ig hC (by kernel_rfl) (aoB rfl rfl rfl) ?_;rintro _ _;refine ⟨by decide_cbv,?_⟩
 conv=>cbv
 obtain rfl:z13=at0:=by rw [hat,<-ez13,<-ez12,hp];rfl
 exact FQ (tm:=(GH rb rc rf iH z13 np pcells pn rc).tm) (hp2:=(GH rb rc rf iH z13 np pcells pn rc).hp) [(5,2105),(6,2502),(7,7),(8,8),(9,9)] rfl rfl ⟨⟨rfl,rfl,rfl⟩,⟨rfl,rfl,rfl⟩,⟨rfl,rfl,rfl⟩,⟨rfl,rfl,rfl⟩,⟨rfl,rfl,rfl⟩,trivial⟩ ⟨rfl,rfl,rfl,rfl,rfl,rfl,trivial⟩
set_option maxHeartbeats 4000000
set_option maxRecDepth 10000
def rfG:Code->Operand×Array Tmp×Code×Code
 | .seq (.seq _ (.block _ (.rangeFunc g ps a b))) _=>(g,ps,a,b)
 | _=>(.tmp 0,#[],.skip,.skip)
noncomputable abbrev BX:Code:=Try.f77.body.getD .skip
noncomputable abbrev ahI:Code:=(rfG (spine 11 BX).2).2.2.1
noncomputable abbrev ahJ:Code:=(rfG (spine 11 BX).2).2.2.2
def stA (rb:ByteArray) (rc rf iH at0 np:Int) (pcells:List DV) (pn:Nat) (sum k ak:Int):SL :=
 {GH rb rc rf iH at0 np pcells pn sum with tm:=(67,.d (.val (.int .i64 ak)))::(66,.d (.val (.int .i64 k)))::(GH rb rc rf iH at0 np pcells pn sum).tm}
def stB (rb:ByteArray) (rc rf iH at0 np:Int) (pcells:List DV) (pn:Nat) (sum k ak:Int):SL :=
 {GH rb rc rf iH at0 np pcells pn sum with tm:=(17,.d (.val (.int .i64 ak)))::(16,.d (.val (.int .i64 k)))::(stA rb rc rf iH at0 np pcells pn sum k ak).tm}
theorem alx {rb:ByteArray} {rc rf iH at0 np:Int} {pcells:List DV} {pn:Nat} {sum k ak:Int} {C:Qh} {F:Ty} {p:Pr} :
 lq p C (xw F yC) iY (qOf xC) 87 ahI (fun e s=>e = .normal/\s=stB rb rc rf iH at0 np pcells pn sum k ak) (stA rb rc rf iH at0 np pcells pn sum k ak):=by
 conv=>cbv
 trivial
theorem aly {rb:ByteArray} {rc rf iH at0 np:Int} {pl:List uf} {pcells:List DV} {pn:Nat} {sum k ak:Int} (hcp:aI UP pl=pcells) (hnp:pl.length=pn) {j:Int} (hPa:fU (pl,ak)=some j) {i:Nat} (hj:j=(i:Int)) (hi:i<pn)
 {d1 d2 d3 d4 d5:Int} (hrow:pl.getD i ((0,(0,0)),(0,0))=((d1,(d2,d3)),(d4,d5))) (hk:0<=k) {hp0:Nat->Option AO} {sum':Int} (hs:sum'=IntKind.wrap .i64 (sum+(if k=0 then d4 else d5)))
 {C:Qh} {F:Ty} {p:Pr} (hC:C=yV Try.prog iY 87 hp0) (hF':F=aS Try.prog) (hp:p=real) :
 lq p C (xw F yC) iY (qOf xC) 87 ahJ (fun e s=>e = .normal/\uP iY 87 (aJ []) ({s with tm:=(GH rb rc rf iH at0 np pcells pn sum).tm}:SL).S (GH rb rc rf iH at0 np pcells pn sum').S) (stB rb rc rf iH at0 np pcells pn sum k ak):=by
 have hemp:p.emp pcells=false:=Qq hp (by rw [<-hcp,bI,hnp];show 0<pn*5;omega);have hrw:p.cells pcells (p.nm i 5) 5=some [.d (.val (.int .u8 d1)),.d (.val (.int .i64 d2)),.d (.val (.int .i64 d3)),.d (.val (.int .i64 d4)),.d (.val (.int .i64 d5))]:=by
  have hi':i<pl.length:=by omega
  rw [JY hp (f:=gU UP) (s:=5) (fun x=>bU UP x) hi' hcp,<-aeL ((0,(0,0)),(0,0)) hi',hrow];rfl
 by_cases hk0:k=0
 ·rw [if_pos hk0] at hs;have ead:p.ar .add .i64 sum d4=sum':=by rw [hp];exact hs.symm
  conv=>cbv
  refine ig hC (by kernel_rfl) (PE hPa hcp hnp) ?_;rintro _ _;refine ⟨by decide_cbv,?_⟩
  conv=>cbv
  obtain ⟨j2,hj2,lj2,ej2⟩:=Ya (i:=j) (n:=pn) hp (by omega) (by omega);simp only [ej2]
  conv=>cbv
  simp only [hemp]
  conv=>cbv
  simp only [hemp]
  conv=>cbv
  obtain rfl:i=j2:=by omega
  simp only [hrw]
  conv=>cbv
  have e3:(p.cmp .eql k 0)=true:=by rw [kU hp];exact decide_eq_true (by omega)
  simp only [e3];clear e3
  conv=>cbv
  simp only [ead];exact FQ (tm:=(GH rb rc rf iH at0 np pcells pn sum').tm) (hp2:=(GH rb rc rf iH at0 np pcells pn sum').hp) [(5,5),(6,6),(7,7),(8,8),(9,9)] rfl rfl ⟨⟨rfl,rfl,rfl⟩,⟨rfl,rfl,rfl⟩,⟨rfl,rfl,rfl⟩,⟨rfl,rfl,rfl⟩,⟨rfl,rfl,rfl⟩,trivial⟩ ⟨rfl,rfl,rfl,rfl,rfl,rfl,trivial⟩
 ·rw [if_neg hk0] at hs;have ead:p.ar .add .i64 sum d5=sum':=by rw [hp];exact hs.symm
  conv=>cbv
  refine ig hC (by kernel_rfl) (PE hPa hcp hnp) ?_;rintro _ _;refine ⟨by decide_cbv,?_⟩
  conv=>cbv
  obtain ⟨j5,hj5,lj5,ej5⟩:=Ya (i:=j) (n:=pn) hp (by omega) (by omega);simp only [ej5]
  conv=>cbv
  simp only [hemp]
  conv=>cbv
  simp only [hemp]
  conv=>cbv
  obtain rfl:i=j5:=by omega
  simp only [hrw]
  conv=>cbv
  have e7:(p.cmp .eql k 0)=false:=by rw [kU hp];exact decide_eq_false (by omega)
  simp only [e7];clear e7
  conv=>cbv
  simp only [ead];exact FQ (tm:=(GH rb rc rf iH at0 np pcells pn sum').tm) (hp2:=(GH rb rc rf iH at0 np pcells pn sum').hp) [(5,5),(6,6),(7,7),(8,8),(9,9)] rfl rfl ⟨⟨rfl,rfl,rfl⟩,⟨rfl,rfl,rfl⟩,⟨rfl,rfl,rfl⟩,⟨rfl,rfl,rfl⟩,⟨rfl,rfl,rfl⟩,trivial⟩ ⟨rfl,rfl,rfl,rfl,rfl,rfl,trivial⟩
noncomputable abbrev ahK:Code:=match (spine 11 BX).2 with | .seq _ c=>c | _ => .skip
theorem ahL {rb:ByteArray} {rc rf iH at0 np:Int} {pcells:List DV} {pn:Nat} {sum:Int} {C:Qh} {F:Ty} {p:Pr} :
 lq p C (xw F yC) iY (qOf xC) 87 ahK (af9 (xw F yC) Try.f77 [] (.tup [.d (.val (.int .i64 sum)),.d (.val (.int .u8 0))]) []) (GH rb rc rf iH at0 np pcells pn sum):=by
 conv=>cbv
 exact qM rfl
theorem ahM {rs:List Ra} {fr:Int} {num:List UInt8} {a b:Int} {cells:List DV} {n:Nat} {nb:ByteArray} (hcr:aI UR rs=cells) (hnr:rs.length=n) (hnb:(⟨num.toArray⟩:ByteArray)=nb) (hV:aW (rs,fr)=some false):fB Try.prog iY 77 [.agg [.d (.dl cells n none),.d (.val (.int .i64 fr))],.d (.val (.string nb)),.d (.val (.int .i64 a)),.d (.val (.int .i64 b))] [] (.tup [.d (.val (.int .i64 0)),.d (.val (.int .u8 2))]) []:=by
 refine mZ KK (fn:=Try.f77) Try.func77 rfl (by show 4<=_;decide) ?_;intro C F p hC hF' hp
 conv=>cbv
 refine ig hC (by kernel_rfl) (yM hV hcr hnr) ?_;rintro _ _;refine ⟨by decide_cbv,?_⟩
 conv=>cbv
 exact qM rfl
theorem ahN {rs:List Ra} {fr:Int} {num:List UInt8} {a b:Int} {cells:List DV} {n:Nat} {nb:ByteArray} (hcr:aI UR rs=cells) (hnr:rs.length=n) (hnb:(⟨num.toArray⟩:ByteArray)=nb) (hV:aW (rs,fr)=some true) (h1:aU (a,(0,281474976710656))=some false):fB Try.prog iY 77 [.agg [.d (.dl cells n none),.d (.val (.int .i64 fr))],.d (.val (.string nb)),.d (.val (.int .i64 a)),.d (.val (.int .i64 b))] [] (.tup [.d (.val (.int .i64 0)),.d (.val (.int .u8 3))]) []:=by
 refine mZ KK (fn:=Try.f77) Try.func77 rfl (by show 4<=_;decide) ?_;intro C F p hC hF' hp
 conv=>cbv
 refine ig hC (by kernel_rfl) (yM hV hcr hnr) ?_;rintro _ _;refine ⟨by decide_cbv,?_⟩
 conv=>cbv
 refine ig hC (by kernel_rfl) (nM (by assumption)) ?_;rintro _ _;refine ⟨by decide_cbv,?_⟩
 conv=>cbv
 exact qM rfl
theorem ahO {rs:List Ra} {fr:Int} {num:List UInt8} {a b:Int} {cells:List DV} {n:Nat} {nb:ByteArray} (hcr:aI UR rs=cells) (hnr:rs.length=n) (hnb:(⟨num.toArray⟩:ByteArray)=nb) (hV:aW (rs,fr)=some true) (h1:aU (a,(0,281474976710656))=some true) (h2:aU (b,(a,281474976710656))=some false):fB Try.prog iY 77 [.agg [.d (.dl cells n none),.d (.val (.int .i64 fr))],.d (.val (.string nb)),.d (.val (.int .i64 a)),.d (.val (.int .i64 b))] [] (.tup [.d (.val (.int .i64 0)),.d (.val (.int .u8 3))]) []:=by
 refine mZ KK (fn:=Try.f77) Try.func77 rfl (by show 4<=_;decide) ?_;intro C F p hC hF' hp
 conv=>cbv
 refine ig hC (by kernel_rfl) (yM hV hcr hnr) ?_;rintro _ _;refine ⟨by decide_cbv,?_⟩
 conv=>cbv
 refine ig hC (by kernel_rfl) (nM (by assumption)) ?_;rintro _ _;refine ⟨by decide_cbv,?_⟩
 conv=>cbv
 refine ig hC (by kernel_rfl) (nM (by assumption)) ?_;rintro _ _;refine ⟨by decide_cbv,?_⟩
 conv=>cbv
 exact qM rfl
theorem ahP {rs:List Ra} {fr:Int} {num:List UInt8} {a b:Int} {cells:List DV} {n:Nat} {nb:ByteArray} (hcr:aI UR rs=cells) (hnr:rs.length=n) (hnb:(⟨num.toArray⟩:ByteArray)=nb) (hV:aW (rs,fr)=some true) (h1:aU (a,(0,281474976710656))=some true) (h2:aU (b,(a,281474976710656))=some true) {se:Int} (h3:bW (a,b)=some se) (h4:se > 1000000):fB Try.prog iY 77 [.agg [.d (.dl cells n none),.d (.val (.int .i64 fr))],.d (.val (.string nb)),.d (.val (.int .i64 a)),.d (.val (.int .i64 b))] [] (.tup [.d (.val (.int .i64 0)),.d (.val (.int .u8 4))]) []:=by
 refine mZ KK (fn:=Try.f77) Try.func77 rfl (by show 4<=_;decide) ?_;intro C F p hC hF' hp
 conv=>cbv
 refine ig hC (by kernel_rfl) (yM hV hcr hnr) ?_;rintro _ _;refine ⟨by decide_cbv,?_⟩
 conv=>cbv
 refine ig hC (by kernel_rfl) (nM (by assumption)) ?_;rintro _ _;refine ⟨by decide_cbv,?_⟩
 conv=>cbv
 refine ig hC (by kernel_rfl) (nM (by assumption)) ?_;rintro _ _;refine ⟨by decide_cbv,?_⟩
 conv=>cbv
 refine ig hC (by kernel_rfl) (BF (by assumption)) ?_;rintro _ _;refine ⟨by decide_cbv,?_⟩
 conv=>cbv
 have e18:(p.cmp .gtr se 1000000)=true:=by rw [pz hp];exact decide_eq_true (by omega)
 simp only [e18];clear e18
 conv=>cbv
 exact qM rfl
theorem ahQ {rs:List Ra} {fr:Int} {num:List UInt8} {a b:Int} {cells:List DV} {n:Nat} {nb:ByteArray} (hcr:aI UR rs=cells) (hnr:rs.length=n) (hnb:(⟨num.toArray⟩:ByteArray)=nb) (hV:aW (rs,fr)=some true) (h1:aU (a,(0,281474976710656))=some true) (h2:aU (b,(a,281474976710656))=some true) {se:Int} (h3:bW (a,b)=some se) (h4:se<=1000000) {ix:Int} (hF:gX ((rs,fr),num)=some (ix,false)):fB Try.prog iY 77 [.agg [.d (.dl cells n none),.d (.val (.int .i64 fr))],.d (.val (.string nb)),.d (.val (.int .i64 a)),.d (.val (.int .i64 b))] [] (.tup [.d (.val (.int .i64 0)),.d (.val (.int .u8 8))]) []:=by
 refine mZ KK (fn:=Try.f77) Try.func77 rfl (by show 4<=_;decide) ?_;intro C F p hC hF' hp
 conv=>cbv
 refine ig hC (by kernel_rfl) (yM hV hcr hnr) ?_;rintro _ _;refine ⟨by decide_cbv,?_⟩
 conv=>cbv
 refine ig hC (by kernel_rfl) (nM (by assumption)) ?_;rintro _ _;refine ⟨by decide_cbv,?_⟩
 conv=>cbv
 refine ig hC (by kernel_rfl) (nM (by assumption)) ?_;rintro _ _;refine ⟨by decide_cbv,?_⟩
 conv=>cbv
 refine ig hC (by kernel_rfl) (BF (by assumption)) ?_;rintro _ _;refine ⟨by decide_cbv,?_⟩
 conv=>cbv
 have e24:(p.cmp .gtr se 1000000)=false:=by rw [pz hp];exact decide_eq_false (by omega)
 simp only [e24];clear e24
 conv=>cbv
 refine ig hC (by kernel_rfl) (Xh hF hcr hnr hnb) ?_;rintro _ _;refine ⟨by decide_cbv,?_⟩
 conv=>cbv
 exact qM rfl
theorem ahR {rs:List Ra} {fr:Int} {num:List UInt8} {a b:Int} {cells:List DV} {n:Nat} {nb:ByteArray} (hcr:aI UR rs=cells) (hnr:rs.length=n) (hnb:(⟨num.toArray⟩:ByteArray)=nb) (hV:aW (rs,fr)=some true) (h1:aU (a,(0,281474976710656))=some true) (h2:aU (b,(a,281474976710656))=some true) {se:Int} (h3:bW (a,b)=some se) (h4:se<=1000000) {ix:Int} (hF:gX ((rs,fr),num)=some (ix,true)) {i:Nat} (hix:ix=(i:Int)) (hin:i<n) {R:Ra} (hR:rs.getD i ([],(0,(0,(0,[]))))=R) {rb:ByteArray} {rc rf iH:Int} {pcells:List DV} {pn:Nat} (hrb:(⟨R.1.toArray⟩:ByteArray)=rb) (hrc:R.2.1=rc) (hrf:R.2.2.1=rf) (hrst:R.2.2.2.1=iH) (hcp:aI UP R.2.2.2.2=pcells) (hnp:R.2.2.2.2.length=pn)
 {np:Int} (hPi:jL (R,(fr,se))=some np) (hnp0:np=0):fB Try.prog iY 77 [.agg [.d (.dl cells n none),.d (.val (.int .i64 fr))],.d (.val (.string nb)),.d (.val (.int .i64 a)),.d (.val (.int .i64 b))] [] (.tup [.d (.val (.int .i64 0)),.d (.val (.int .u8 0))]) []:=by
 refine mZ KK (fn:=Try.f77) Try.func77 rfl (by show 4<=_;decide) ?_;intro C F p hC hF' hp;have hemp:p.emp cells=false:=Qq hp (by rw [<-hcr,bI,hnr];show 0<n*5;omega);have hrow:p.cells cells (p.nm i 5) 5=some [.d (.val (.string rb)),.d (.val (.int .i64 rc)),.d (.val (.int .i64 rf)),.d (.val (.int .i64 iH)),.d (.dl pcells pn none)]:=by
  have hi:i<rs.length:=by omega
  rw [JY hp (f:=gU UR) (s:=5) (fun x=>bU UR x) hi hcr,<-aeL ([],(0,(0,(0,[])))) hi,hR,<-hrb,<-hrc,<-hrf,<-hrst,<-hcp,<-hnp];rfl
 conv=>cbv
 refine ig hC (by kernel_rfl) (yM hV hcr hnr) ?_;rintro _ _;refine ⟨by decide_cbv,?_⟩
 conv=>cbv
 refine ig hC (by kernel_rfl) (nM (by assumption)) ?_;rintro _ _;refine ⟨by decide_cbv,?_⟩
 conv=>cbv
 refine ig hC (by kernel_rfl) (nM (by assumption)) ?_;rintro _ _;refine ⟨by decide_cbv,?_⟩
 conv=>cbv
 refine ig hC (by kernel_rfl) (BF (by assumption)) ?_;rintro _ _;refine ⟨by decide_cbv,?_⟩
 conv=>cbv
 have e31:(p.cmp .gtr se 1000000)=false:=by rw [pz hp];exact decide_eq_false (by omega)
 simp only [e31];clear e31
 conv=>cbv
 refine ig hC (by kernel_rfl) (Xh hF hcr hnr hnb) ?_;rintro _ _;refine ⟨by decide_cbv,?_⟩
 conv=>cbv
 obtain ⟨j33,hj33,lj33,ej33⟩:=Ya (i:=ix) (n:=n) hp (by omega) (by omega);simp only [ej33]
 conv=>cbv
 simp only [hemp]
 conv=>cbv
 simp only [hemp]
 conv=>cbv
 obtain rfl:j33=i:=by omega
 simp only [hemp,hrow]
 conv=>cbv
 refine ig hC (by kernel_rfl) (UU hPi hrb hrc hrf hrst hcp hnp) ?_;rintro _ _;refine ⟨by decide_cbv,?_⟩
 conv=>cbv
 have e35:(p.cmp .eql np 0)=true:=by rw [kU hp];exact decide_eq_true (by omega)
 simp only [e35];clear e35
 conv=>cbv
 exact qM rfl
set_option maxRecDepth 100000
theorem Zg {h h':Array Obj} {X:Nat->Prop} (hc:∀b o u,iQ h b o=some u->iQ h' b o=some u):∀(cells:List DV) (b o:Nat),fA h X cells b o->fA h' X cells b o
 | [],b,o,_=>by rw [fA];trivial
 | x::xs,b,o,hr=>by
   rw [fA] at hr ⊢;obtain ⟨⟨u,h1,h2⟩,h3⟩:=hr;exact ⟨⟨u,hc _ _ _ h1,dD.mono (fun b o u hx hu=>⟨hx,hc b o u hu⟩) x u h2⟩,Zg hc xs b (o+1) h3⟩
def NC (h:Array Obj) (k:Nat):Prop:=∃o,h[k]? = some o/\o.isCells=false/\o.isWalk=false
theorem LZ {N:Nat} {E0:En} {w0:World} {E:En} {a:Act} {w:World} {s:S} {w':World} (hS:sU iY N E a w s) (hA:dA E0 w0 E w) (h1:w'.os=w.os) (h2:w'.tape=w.tape) (h3:w'.output=w.output) (h4:w.heap.size<=w'.heap.size)
 (hb:∀k,k<w.heap.size->w'.heap[k]? = w.heap[k]? \/ (w0.heap.size<=k/\NC w.heap k)):sU iY N {E with h:=w'.heap} a w' s/\dA E0 w0 {E with h:=w'.heap} w'/\Ext E {E with h:=w'.heap}:=by
 have hE:E.h=w.heap:=hS.h.symm;have hc:∀b o u,iQ E.h b o=some u->iQ w'.heap b o=some u:=fun b o u hu=>by
  have hlt:=zn hu;rw [hE] at hlt hu;rcases hb b hlt with e | ⟨_,o',ho,hn,_⟩
  ·unfold iQ at hu ⊢;rw [e];exact hu
  ·unfold iQ at hu;rw [ho] at hu;cases o'<;>first | (simp [Obj.isCells] at hn;done) | (cases hu;done)
 have ho:∀(b:Nat) (o:Obj),E.h[b]? = some o->(o.isCells=true\/o.isWalk=true)->w'.heap[b]? = some o:=fun b o hbo hk=>by
  rw [hE] at hbo;rcases hb b (Array.getElem?_eq_some_iff.1 hbo).1 with e | ⟨_,o',ho',k1,k2⟩
  ·rw [e];exact hbo
  ·rw [hbo] at ho';cases ho';rcases hk with k | k
   ·rw [k1] at k;cases k
   ·rw [k2] at k;cases k
 have hx:Ext E {E with h:=w'.heap}:=⟨fun b o u hx hu=>⟨hx,hc b o u hu⟩,fun r o h=>⟨o,h,o.like_refl,.inr rfl⟩⟩
 refine ⟨⟨rfl,hS.hp,⟨fun r o hr => ?_,hS.sim.inj,fun g cells hg=>by cases hg⟩,hS.n,hS.df,fun t=>Rel.ext hx _ _ (hS.tm t)⟩,⟨hA.ext.trans hx,?_⟩,hx⟩
 ·have:=hS.sim.ob r o hr;cases o with
  | data e s cs mt =>
    rcases this with ⟨q1,q2⟩ | ⟨b,cur,q1,q2,q3,q4,q5,q6⟩
    ·exact .inl ⟨q1,q2⟩
    ·exact .inr ⟨b,cur,q1,ho b _ q2 (.inl rfl),Zg hc _ _ _ q3,q4,q5,q6⟩
  | mix cs =>
    obtain ⟨b,cur,t,q1,q2,q3,q4⟩:=this;exact ⟨b,cur,t,q1,ho b _ q2 (.inl rfl),aP.ext hx _ _ q3,q4⟩
  | mp ks =>
    obtain ⟨b,es,clock,q1,q2,q3,q4⟩:=this;exact ⟨b,es,clock,q1,ho b _ q2 (.inr rfl),q3,q4⟩
  | dead=>trivial
 ·have f:=hA.fr;refine ⟨h1.trans f.os,h2.trans f.tape,h3.trans f.output,Nat.le_trans f.size h4,fun k hk hm => ?_,f.mb,f.xs,f.xk⟩;rcases hb k (Nat.lt_of_lt_of_le hk f.size) with e | ⟨ge,_⟩
  ·rw [e];exact f.blk k hk hm
  ·omega
theorem alz {N:Nat} {E:En} {a:Act} {w:World} {s:S} (hS:sU iY N E a w s) {k:Nat} (hn:NC w.heap k):¬CB E k:=by
 rintro ⟨r,o,z,h1,h2,h3⟩;obtain ⟨o',ho',k1,k2⟩:=hn;have hE:E.h=w.heap:=hS.h.symm;have:=hS.sim.ob r o h1;cases o with
 | data e s cs mt =>
   rcases this with ⟨q1,q2⟩ | ⟨b,cur,q1,q2,_⟩
   ·rw [q1] at h3;cases h3
   ·rw [q1] at h3;cases h3;rw [hE,ho'] at q2;cases q2;cases k1
 | mix cs =>
   obtain ⟨b,cur,t,q1,q2,_⟩:=this;rw [q1] at h3;cases h3;rw [hE,ho'] at q2;cases q2;cases k1
 | mp ks =>
   obtain ⟨b,es,clock,q1,q2,_⟩:=this;rw [q1] at h3;cases h3;rw [hE,ho'] at q2;cases q2;cases k2
 | dead=>cases h2
theorem dA.trans {E0 E1 E2:En} {w0 w1 w2:World} (h:dA E0 w0 E1 w1) (k:dA E1 w1 E2 w2):dA E0 w0 E2 w2:=⟨h.ext.trans k.ext,h.fr.trans k.fr⟩
theorem EL {N:Nat} {E E':En} {a:Act} {w w':World} {s:S} (hS:sU iY N E a w s) (hA:dA E w E' w') {k:Nat} {o:Obj} (h:w.heap[k]? = some o) (h1:o.isCells=false) (h2:o.isWalk=false):w'.heap[k]? = some o:=by
 rw [hA.fr.blk k (Array.getElem?_eq_some_iff.1 h).1 (alz hS ⟨o,h,h1,h2⟩)];exact h
theorem EM {w0 w:World} {l:Nat} {o o':Obj} (h0:w0.heap.size<=l) (h:w.heap[l]? = some o) (h1:o.isCells=false) (h2:o.isWalk=false):∀k,k<w.heap.size->(w.putObj l o').heap[k]? = w.heap[k]? \/ (w0.heap.size<=k/\NC w.heap k):=fun k hk=>by
 by_cases e:k=l
 ·subst e;exact .inr ⟨h0,o,h,h1,h2⟩
 ·exact .inl (World.putObj_heap_other e)
def EO (fn:FuncId) (tm:Array Value) (D:Nat) (st:LoopState) (pe:Option Code):Loop:={state:=st,pending:=pe,fn:=fn,tmps:=tm,params := #[66,67],assign:=ahI,body:=ahJ,defers:=D}
def EP (l:List uf) (rc:Int) (bg:Nat->Int):Nat->Option Int
 | 0=>some rc
 | k+1=>ah (EP l rc bg k) fun s=>ah (fU (l,bg k)) fun j =>
   bif decide (0<=j/\j<(l.length:Int)) then some (IntKind.wrap .i64 (s+(if (k:Int)=0 then (l.getD j.toNat ((0,(0,0)),(0,0))).2.1 else (l.getD j.toNat ((0,(0,0)),(0,0))).2.2))) else none
theorem PG {l:List uf} {rc:Int} {bg:Nat->Int} {k:Nat} {s':Int} (h:EP l rc bg (k+1)=some s'):∃s j,EP l rc bg k=some s/\fU (l,bg k)=some j/\0<=j/\j<(l.length:Int) /\
 s'=IntKind.wrap .i64 (s+(if (k:Int)=0 then (l.getD j.toNat ((0,(0,0)),(0,0))).2.1 else (l.getD j.toNat ((0,(0,0)),(0,0))).2.2)):=by
 unfold EP at h;cases h1:EP l rc bg k with
 | none=>rw [h1] at h;cases h
 | some s =>
   rw [h1] at h;simp only [aB] at h;cases h2:fU (l,bg k) with
   | none=>rw [h2] at h;cases h
   | some j =>
     rw [h2] at h;simp only [aB] at h;by_cases hj:0<=j/\j<(l.length:Int)
     ·rw [decide_eq_true hj] at h;cases h;exact ⟨s,j,rfl,rfl,hj.1,hj.2,rfl⟩
     ·rw [decide_eq_false hj] at h;cases h
theorem Zh {l:List uf} {rc:Int} {bg:Nat->Int}:∀ {n:Nat} {s:Int},EP l rc bg n=some s->∀k,k<=n->∃t,EP l rc bg k=some t
 | 0,s,h,k,hk=>⟨s,by rw [show k=0 from by omega];exact h⟩
 | n+1,s,h,k,hk=>by
   by_cases e:k=n+1
   ·subst e;exact ⟨s,h⟩
   ·obtain ⟨t,_,ht,_⟩:=PG h;exact Zh ht k (by omega)
section
variable {rb:ByteArray} {rc rf iH at0 np:Int} {pl:List uf} {pcells:List DV} {pn:Nat} {E0:En} {w0:World} {tm:Array Value} {D L:Nat} {fn:FuncId}
def alA (rb:ByteArray) (rc rf iH at0 np:Int) (pl:List uf) (pcells:List DV) (pn:Nat) (E0:En) (w0:World) (tm:Array Value) (D L:Nat) (fn:FuncId) (k:Nat) (W:World):Prop :=
 ∃E s,EP pl rc (sZ at0 rf iH) k=some s/\sU iY 87 E ⟨tm,[]⟩ W (GH rb rc rf iH at0 np pcells pn s).S/\dA E0 w0 E W/\W.heap[D]? = some (.deferred (some []))/\W.heap[L]? = some (.loop (EO fn tm D .ready none))
theorem ajy {E:En} {k:IntKind} {v:Int}:Rel E (.d (.val (.int k v))) (.int k v):=by rw [Rel,dD];exact ⟨rfl,rfl⟩
set_option maxHeartbeats 1000000 in
theorem aeM (h0:E0.hp=aJ []) (hcp:aI UP pl=pcells) (hnp:pl.length=pn) (hD:w0.heap.size<=D) (hL:w0.heap.size<=L) (hDL:D≠L) {k:Nat} {W:World} (hI:alA rb rc rf iH at0 np pl pcells pn E0 w0 tm D L fn k W) {s':Int} (hs':EP pl rc (sZ at0 rf iH) (k+1)=some s') (m:Nat) :
 YieldAt Fence.wide m Try.prog L #[.int .i64 k,.int .i64 (sZ at0 rf iH k)] W fun e W'=>e = .returned (.bool true)/\alA rb rc rf iH at0 np pl pcells pn E0 w0 tm D L fn (k+1) W':=by
 obtain ⟨E,s,hs,hS,hA,hDo,hLo⟩:=hI;obtain ⟨s1,j,hs1,hj,hj0,hj1,e1⟩:=PG hs';rw [hs] at hs1;obtain rfl:s=s1:=by cases hs1;rfl
 have hy:=run_yield (P:=Try.prog) (args := #[.int .i64 k,.int .i64 (sZ at0 rf iH k)]) hLo rfl;refine ⟨_,_,_,_,hy,roundIn_of_wpIn trivial ?_⟩;have q1:oh [] iY 87 E ((⟨tm,[]⟩:Act).put (some 66) (.int .i64 k)) W ({GH rb rc rf iH at0 np pcells pn s with tm:=(66,.d (.val (.int .i64 k)))::(GH rb rc rf iH at0 np pcells pn s).tm}:SL).S:=by
  have:=(⟨hS,rfl⟩:oh [] iY 87 E ⟨tm,[]⟩ W (GH rb rc rf iH at0 np pcells pn s).S).put (Goes.refl hS.h hS.sim) (d:=some 66) (fun t e=>by cases e;decide) (v := .d (.val (.int .i64 k))) (u := .int .i64 k) ajy;have e:=SL.app_S (GH rb rc rf iH at0 np pcells pn s) (some 66) ⟨.d (.val (.int .i64 k)),[],[],[],[]⟩;exact e▸this
 have q2:oh [] iY 87 E (((⟨tm,[]⟩:Act).put (some 66) (.int .i64 k)).put (some 67) (.int .i64 (sZ at0 rf iH k))) W (stA rb rc rf iH at0 np pcells pn s k (sZ at0 rf iH k)).S:=by
  have:=q1.put (Goes.refl hS.h hS.sim) (d:=some 67) (fun t e=>by cases e;decide) (v := .d (.val (.int .i64 (sZ at0 rf iH k)))) (u := .int .i64 (sZ at0 rf iH k)) ajy;have e:=SL.app_S ({GH rb rc rf iH at0 np pcells pn s with tm:=(66,.d (.val (.int .i64 k)))::(GH rb rc rf iH at0 np pcells pn s).tm}:SL) (some 67) ⟨.d (.val (.int .i64 (sZ at0 rf iH k))),[],[],[],[]⟩;exact e▸this
 have hA1:=iZ (df:=[]) (hp0:=E.hp) (ajw Try.prog L) m KK.hq KK.hdp KK.hm KK.hT ahI (fun e t=>e = .normal/\t=stB rb rc rf iH at0 np pcells pn s k (sZ at0 rf iH k)) (stA rb rc rf iH at0 np pcells pn s k (sZ at0 rf iH k)) (by kernel_rfl) (by rw [<-iI];exact alx);have hact:({tmps:=((#[66,67]:Array Tmp).zip #[Value.int .i64 k,.int .i64 (sZ at0 rf iH k)]).foldl (fun tmps (t,a)=>tmps.setIfInBounds t a) tm,defers:=[]}:Act)=((⟨tm,[]⟩:Act).put (some 66) (.int .i64 k)).put (some 67) (.int .i64 (sZ at0 rf iH k)):=by simp [Act.put]
 rw [<-hact] at q2;refine wpIn_mono (hA1 E W E _ W rfl q2 (dA.refl _ _)) ?_;rintro e a1 w1 ⟨_,E1,⟨sl,rfl,rfl,rfl⟩,hS2,hA2⟩;have hD1:=EL hS hA2 hDo rfl rfl;have hL1:=EL hS hA2 hLo rfl rfl;have hL1lt:=(Array.getElem?_eq_some_iff.1 hL1).1;refine ⟨_,run_beginRound hL1 rfl,?_⟩;obtain ⟨hS3,hA3,hx3⟩:=LZ (w':=w1.putObj L (.loop {EO fn tm D .ready none with state := .busy})) hS2.sm (hA.trans hA2) rfl rfl rfl (by simp) (EM hL hL1 rfl rfl);have hD2:(w1.putObj L (.loop {EO fn tm D .ready none with state := .busy})).heap[D]? = some (.deferred (some [])):=(World.putObj_heap_other hDL).trans hD1;have hL2:(w1.putObj L (.loop {EO fn tm D .ready none with state := .busy})).heap[L]? = some (.loop {EO fn tm D .ready none with state := .busy}):=World.putObj_heap_same hL1lt;generalize w1.putObj L (.loop {EO fn tm D .ready none with state := .busy})=w2 at *
 obtain ⟨i,hi⟩:∃i:Nat,j=(i:Int):=⟨j.toNat,by omega⟩
 obtain ⟨⟨⟨d1,d2,d3⟩,d4,d5⟩,hrow⟩:∃x,pl.getD i ((0,(0,0)),(0,0))=x:=⟨_,rfl⟩
 have e2:s'=IntKind.wrap .i64 (s+(if (k:Int)=0 then d4 else d5)):=by rw [e1,hi,Int.toNat_natCast,hrow]
 have hA4:=iZ (df:=[]) (hp0:=E1.hp) (ajw Try.prog L) m KK.hq KK.hdp KK.hm KK.hT ahJ (fun e t=>e = .normal/\uP iY 87 (aJ []) ({t with tm:=(GH rb rc rf iH at0 np pcells pn s).tm}:SL).S (GH rb rc rf iH at0 np pcells pn s').S) (stB rb rc rf iH at0 np pcells pn s k (sZ at0 rf iH k)) (by kernel_rfl)
  (by rw [<-iI];exact aly hcp hnp hj hi (by omega) hrow (by omega) e2 rfl rfl rfl)
 refine wpIn_mono (hA4 {E1 with h:=w2.heap} w2 {E1 with h:=w2.heap} a1 w2 rfl ⟨hS3,hS2.dq⟩ (dA.refl _ _)) ?_;rintro e a3 w3 ⟨_,E3,⟨sl,rfl,rfl,hT⟩,hS4,hA5⟩;have hD3:=EL hS3 hA5 hD2 rfl rfl;have hL3:=EL hS3 hA5 hL2 rfl rfl;have hL3lt:=(Array.getElem?_eq_some_iff.1 hL3).1;refine ⟨_,_,run_endRound none hL3,rfl,?_⟩;have hS5:sU iY 87 E3 ⟨tm,[]⟩ w3 ({sl with tm:=(GH rb rc rf iH at0 np pcells pn s).tm}:SL).S:=⟨hS4.sm.h,hS4.sm.hp,hS4.sm.sim,hS.n,rfl,fun t=>Rel.ext ((hA2.ext.trans hx3).trans hA5.ext) _ _ (hS.tm t)⟩
 obtain ⟨E4,hS6,hA6⟩:=hT E0 w0 E3 _ w3 h0 hS5 (hA3.trans hA5);obtain ⟨hS7,hA7,_⟩:=LZ (w':=w3.putObj L (.loop (EO fn tm D .ready none))) hS6 hA6 rfl rfl rfl (by simp) (EM hL hL3 rfl rfl);exact ⟨_,s',hs',hS7,hA7,(World.putObj_heap_other hDL).trans hD3,World.putObj_heap_same hL3lt⟩
end
set_option maxRecDepth 100000
theorem L6 {E:En} {r off:Nat} {cs:List AV} {v:Value} (h:E.hp r=some (.mix cs)) (hr:Rel E (.ptr r off) v):∃b z,E.m r=some (b,z)/\v = .pointer (some ⟨b,off,none⟩):=by
 rw [Rel,h] at hr;exact hr
theorem Q7 {E:En} {k:IntKind} {n:Int} {u:Value} (h:Rel E (.d (.val (.int k n))) u):u = .int k n:=by
 rw [Rel,dD] at h;exact h.1
theorem lF {E:En} {x:AV} {xs:List AV} {vs:List Value} (h:aP E (x::xs) vs):∃v vs',vs=v::vs'/\Rel E x v/\aP E xs vs':=by rw [aP] at h;exact h
theorem abj {E:En} {vs:List Value} (h:aP E [] vs):vs=[]:=by rw [aP] at h;exact h
theorem L8 {w:World} {b o:Nat} {cur:Array Value} {t:TypeId} {v:Value} (h:w.heap[b]? = some (.cells cur t (0,0))) (hv:cur.toList[o]? = some v):w.cell? ⟨b,o,none⟩=some v:=by
 rw [pW];unfold iQ;rw [h];simpa using hv
section
variable {rb:ByteArray} {rc rf iH at0 np:Int} {pl:List uf} {pcells:List DV} {pn:Nat}
theorem aeN {E:En} {w:World} {tm:Array Value} {s:Int} (hS:sU iY 87 E ⟨tm,[]⟩ w (GH rb rc rf iH at0 np pcells pn s).S):∃b7 b8 b9,tm.getD 65 undef = .func (.func 126) #[] #[.pointer (some ⟨b7,0,none⟩),.pointer (some ⟨b8,0,none⟩),.pointer (some ⟨b9,0,none⟩)] /\
 w.cell? ⟨b7,0,none⟩=some (.int .i64 at0)/\w.cell? ⟨b8,0,none⟩=some (.int .i64 np)/\w.cell? ⟨b9,2,none⟩=some (.int .i64 rf)/\w.cell? ⟨b9,3,none⟩=some (.int .i64 iH):=by
 have hr:Rel E (.clo 126 [.ptr 7 0,.ptr 8 0,.ptr 9 0]) (tm.getD 65 undef):=hS.tm 65;have hh:∀r,E.hp r=(GH rb rc rf iH at0 np pcells pn s).rd r:=fun r=>congrFun hS.hp r;have hE:E.h=w.heap:=hS.h.symm;rw [Rel] at hr;obtain ⟨⟨v1,v2⟩,⟨hv,hsz⟩,hrl⟩:=hr;have h1:v1 = #[]:=Array.eq_empty_of_size_eq_zero hsz;subst h1;obtain ⟨u7,l7,e7,g7,hrl⟩:=lF hrl;obtain ⟨u8,l8,e8,g8,hrl⟩:=lF hrl;obtain ⟨u9,l9,e9,g9,hrl⟩:=lF hrl;have e10:=abj hrl;subst e10 e9 e8;have e11:v2.toList=[u7,u8,u9]:=by simpa using e7
 have e12:v2 = #[u7,u8,u9]:=by rw [<-Array.toList_inj];exact e11
 subst e12;have k7:E.hp 7=some (.mix [.d (.val (.int .i64 at0))]):=hh 7;have k8:E.hp 8=some (.mix [.d (.val (.int .i64 np))]):=hh 8;have k9:E.hp 9=some (.mix [.d (.val (.string rb)),.d (.val (.int .i64 rc)),.d (.val (.int .i64 rf)),.d (.val (.int .i64 iH)),.d (.dl pcells pn none)]):=hh 9;obtain ⟨b7,z7,m7,rfl⟩:=L6 k7 g7;obtain ⟨b8,z8,m8,rfl⟩:=L6 k8 g8;obtain ⟨b9,z9,m9,rfl⟩:=L6 k9 g9;refine ⟨b7,b8,b9,hv,?_,?_,?_,?_⟩
 ·obtain ⟨b,cur,t,q1,q2,q3,_⟩:=hS.sim.ob _ _ k7;rw [m7] at q1;cases q1;obtain ⟨x0,y0,c0,r0,q3⟩:=lF q3;rw [Q7 r0] at c0;exact L8 (by rw [<-hE];exact q2) (by rw [c0];rfl)
 ·obtain ⟨b,cur,t,q1,q2,q3,_⟩:=hS.sim.ob _ _ k8;rw [m8] at q1;cases q1;obtain ⟨x0,y0,c0,r0,q3⟩:=lF q3;rw [Q7 r0] at c0;exact L8 (by rw [<-hE];exact q2) (by rw [c0];rfl)
 all_goals
  obtain ⟨b,cur,t,q1,q2,q3,_⟩:=hS.sim.ob _ _ k9;rw [m9] at q1;cases q1;obtain ⟨x0,y0,c0,r0,q3⟩:=lF q3;obtain ⟨x1,y1,c1,r1,q3⟩:=lF q3;obtain ⟨x2,y2,c2,r2,q3⟩:=lF q3;obtain ⟨x3,y3,c3,r3,q3⟩:=lF q3;rw [Q7 r2] at c2;rw [Q7 r3] at c3;subst c3 c2 c1;exact L8 (by rw [<-hE];exact q2) (by rw [c0];rfl)
noncomputable abbrev alB:Code:=match (spine 11 BX).2 with | .seq (.seq _ b) _=>b | _ => .skip
noncomputable abbrev alC:Code:=match (spine 11 BX).2 with | .seq (.seq y _) _=>y | _ => .skip
theorem alD:alB = .block 0 (.rangeFunc (.tmp 65) #[66,67] ahI ahJ):=by kernel_rfl
theorem Zi:(spine 11 BX).2 = .seq (.seq alC alB) ahK:=by kernel_rfl
def alE (E0:En) (w0:World) (v:AV):Ending->World->Prop:=fun e w'=>∃u E',e = .returned u/\w'.heap=E'.h/\E'.hp=aJ []/\fZ iY E'/\Ext E0 E'/\oZ E0 w0 E' w'/\Rel E' v u
theorem L9 {E0 E:En} {w0 w:World} {a:Act} {D:Nat} {sl:SL} {v:AV} (h0:E0.hp=aJ []) (hS:oh [{target := .collected D,args := #[]}] iY 87 E a w sl.S) (hA:dA E0 w0 E w) (hD:w0.heap.size<=D) (hDo:w.heap[D]? = some (.deferred (some [])))
 (hq:match D7 (xw (aS Try.prog) yC) Try.f77 sl with | some x=>Back [] sl.hp [] v x | none=>False):LeavesInM Fence.wide 9 Try.prog Try.f77 a.tmps (alE E0 w0 v) a.defers .returning w:=by
 rw [hS.dq];refine ⟨by simp,.inl ⟨D,_,rfl,run_takeDeferred hDo,?_⟩⟩;obtain ⟨hS1,hA1,_⟩:=LZ (w':=w.putObj D (.deferred none)) hS.sm hA rfl rfl rfl (by simp) (EM hD hDo rfl rfl);rw [<-KK.hT] at hq;obtain ⟨x,k1,θ,k0,k2,k3⟩:∃x,D7 (aS Try.prog) Try.f77 sl=some x/\Back [] sl.hp [] v x:=by
  cases hx:D7 (aS Try.prog) Try.f77 sl with
  | none=>rw [hx] at hq;exact hq.elim
  | some x=>rw [hx] at hq;exact ⟨x,rfl,hq⟩
 obtain ⟨y,g1,g2⟩:=D8 hS1 k1;have hp:({E with h:=(w.putObj D (.deferred none)).heap}:En).hp=aJ sl.hp:=hS1.hp;rw [<-hp] at k2 k3;exact ⟨y,g1,y,kY {E with h:=(w.putObj D (.deferred none)).heap} θ (aJ []),rfl,hS1.h,rfl,qJ hS1.sim k2,xu hA1 k2 (fun r o ho=>by rw [h0] at ho;exact k0 r o ho),qK k2 hA1.fr,uO hS1.sim k2 _ _ _ k3 g2⟩
set_option maxHeartbeats 1000000 in
theorem ahS {E0 E:En} {w0 w:World} {a:Act} (h0:E0.hp=aJ []) (hcp:aI UP pl=pcells) (hnp:pl.length=pn) {n:Nat} (hn:np=(n:Int)) (hn1:(n:Int)<=4000000000000000000) {S:Int} (hsum:EP pl rc (sZ at0 rf iH) n=some S) (hS:sU iY 87 E a w (GH rb rc rf iH at0 np pcells pn rc).S) (hA:dA E0 w0 E w) :
 alB.wpIn Fence.wide 9 Try.prog (Exit.then (ahK.wpIn Fence.wide 9 Try.prog (bodyPostM Fence.wide 9 Try.prog Try.f77 (alE E0 w0 (.tup [.d (.val (.int .i64 S)),.d (.val (.int .u8 0))])))) (bodyPostM Fence.wide 9 Try.prog Try.f77 (alE E0 w0 (.tup [.d (.val (.int .i64 S)),.d (.val (.int .u8 0))])))) a w:=by
 obtain ⟨tm,df⟩:=a;have hdf:df=[]:=hS.df;subst hdf;rw [alD];refine wpIn_block (wpIn_rangeFunc ?_);intro fn _;obtain ⟨b7,b8,b9,hv,_⟩:=aeN hS;have hg:(⟨tm,[]⟩:Act).eval (.tmp 65) = .func (.func 126) #[] #[.pointer (some ⟨b7,0,none⟩),.pointer (some ⟨b8,0,none⟩),.pointer (some ⟨b9,0,none⟩)]:=hv;have hD0:w0.heap.size<=w.heap.size:=hA.fr.size;obtain ⟨W1,hW1⟩:∃W1,(w.alloc (.deferred (some []))).alloc (.loop (EO fn tm w.heap.size .ready none))=W1:=⟨_,rfl⟩
 have hL1:W1.heap[w.heap.size+1]? = some (.loop (EO fn tm w.heap.size .ready none)):=by
  rw [<-hW1];have:=World.alloc_heap_new (w.alloc (.deferred (some []))) (.loop (EO fn tm w.heap.size .ready none));rwa [World.size_alloc] at this
 have hK1:W1.heap[w.heap.size]? = some (.deferred (some [])):=by
  rw [<-hW1];exact (Below.heap_alloc _ _ _ (by simp)).trans (World.alloc_heap_new w _)
 have hB1:Below w.heap.size w W1:=by
  rw [<-hW1];exact (((Below.refl _ w).alloc (Nat.le_refl _) _).alloc (by simp) _)
 obtain ⟨hS1,hA1,_⟩:=LZ (w':=W1) hS hA hB1.os hB1.tape hB1.output hB1.size (fun k hk => .inl (hB1.block k hk))
 refine ⟨w.heap.size+1,[{target := .collected w.heap.size,args := #[]}],W1,{target := .fn (.func 126) #[.pointer (some ⟨b7,0,none⟩),.pointer (some ⟨b8,0,none⟩),.pointer (some ⟨b9,0,none⟩)],args := #[.func (.yield (w.heap.size+1)) #[] #[]]},W1,126,
  #[.func (.yield (w.heap.size+1)) #[] #[],.pointer (some ⟨b7,0,none⟩),.pointer (some ⟨b8,0,none⟩),.pointer (some ⟨b9,0,none⟩)],W1,?_,?_,fun _ _=>trivial,?_,fun g=>(by cases g),?_⟩
 ·rw [<-hW1];exact run_enterLoop_outer _ _ _ _ _
 ·simp only [resolve,hg];simp [go_sem]
 ·have eg:=Go.Proofs.enters_of Try.func126 (by kernel_rfl) rfl;simp [invoke,go_sem,eg]
 ·refine (ahH 8 (w.heap.size+1) b7 b8 b9 at0 rf iH n hn1 (alA rb rc rf iH at0 np pl pcells pn E0 w0 tm w.heap.size (w.heap.size+1) fn) ?_ ?_ W1 ⟨_,rc,rfl,hS1,hA1,hK1,hL1⟩).mono ?_
  ·rintro k W ⟨E',s,_,hS',_⟩;obtain ⟨c7,c8,c9,hv',r1,r2,r3,r4⟩:=aeN hS';rw [hv] at hv';cases hv';rw [hn] at r2;exact ⟨r1,r2,r3,r4⟩
  ·intro k W hk hI;obtain ⟨s',hs'⟩:=Zh hsum (k+1) (by omega);exact aeM h0 hcp hnp hD0 (by omega) (by omega) hI hs' 7
  ·rintro e W2 ⟨⟨v,rfl⟩,E2,s2,hs2,hS2,hA2,hD2,hL2⟩;rw [hsum] at hs2;cases hs2;refine ⟨none,_,run_endLoop hL2 (by simp [EO]),?_⟩;obtain ⟨hS3,hA3,_⟩:=LZ (w':=W2.putObj (w.heap.size+1) (.loop {EO fn tm w.heap.size .ready none with state := .exhausted})) hS2 hA2 rfl rfl rfl (by simp) (EM (by omega) hL2 rfl rfl);have hD3:(W2.putObj (w.heap.size+1) (.loop {EO fn tm w.heap.size .ready none with state := .exhausted})).heap[w.heap.size]? = some (.deferred (some [])):=(World.putObj_heap_other (by omega)).trans hD2;generalize W2.putObj (w.heap.size+1) (.loop {EO fn tm w.heap.size .ready none with state := .exhausted})=w4 at *
   have hp:=iZ (df:=[{target := .collected w.heap.size,args := #[]}]) (hp0:=E2.hp) (aoz Try.prog) 9 KK.hq KK.hdp KK.hm KK.hT ahK _ (GH rb rc rf iH at0 np pcells pn S) (by kernel_rfl) (by rw [<-iI];exact ahL);refine wpIn_mono (hp {E2 with h:=w4.heap} w4 {E2 with h:=w4.heap} _ w4 rfl ⟨hS3,rfl⟩ (dA.refl _ _)) ?_;rintro e a5 w5 ⟨_,E5,⟨sl,rfl,hq⟩,hS5,hA5⟩;have hD5:=EL hS3 hA5 hD3 rfl rfl;cases e with
   | normal=>exact L9 h0 hS5 (hA3.trans hA5) hD0 hD5 hq
   | ret=>exact L9 h0 hS5 (hA3.trans hA5) hD0 hD5 hq
   | exit i=>exact hq.elim
   | goto l=>exact hq.elim
   | panic ch=>exact hq.elim
   | outgrown=>exact hq.elim
end
end Go.Proofs.Ytkpijdndakljjaa
end
