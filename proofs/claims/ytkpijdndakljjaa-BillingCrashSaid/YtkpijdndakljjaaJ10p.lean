import Derived.Test.YtkpijdndakljjaaZrp
import Derived.Test.YtkpijdndakljjaaFp
import Derived.Test.YtkpijdndakljjaaXBp
import Derived.Test.YtkpijdndakljjaaQ1p
import Derived.Test.YtkpijdndakljjaaJ9p
set_option linter.unusedSimpArgs false
set_option linter.unusedVariables false
set_option maxRecDepth 1000000
set_option maxHeartbeats 0
namespace Go.Proofs.Ytkpijdndakljjaa
open Go.RowKit
def MJ:List (Nat×PL):=[]
noncomputable def wK:(Int×(LN×Bool))->Option (LN×(LN×Bool)):=fun (a1,(a2,a3)) =>
 bif a3 then
 some (([]:List Int),(a2,true))
 else
 bif (decide ((a2.length:Int)<a1)) then
 some (([]:List Int),(a2,true))
 else
 bif (decide (((0:Int)<=a1)/\(a1<=(a2.length:Int)))) then
 bif (decide (((0:Int)<=a1)/\(a1<=(a2.length:Int)))) then
 some ((List.take a1.toNat a2),((List.drop a1.toNat a2),a3))
 else none
 else none
noncomputable def MK:List (Nat×CE):=[]
theorem EP:eH Try.prog MK:=trivial
noncomputable def yI:CE:=⟨[.tmp 0 false [.pt 20000010 0],.tmp 1 false [.dat dF],.mix 20000010 [.dat (.list sW),.dat .bool]],[.tmp 0 false [dY],.mix 20000010 [dY,dO]],wK⟩
theorem BO:aW Try.prog 123 yI :=
 tJ (pX (plan:=wF MJ) (eg:=fC) KK qV (oh EP) Try.func123 (by kernel_rfl) (by kernel_rfl) 10000 (fun a r h=>Eq.trans (show _=wK a from by kernel_rfl) h)) (by rfl)
def IQ:List (Nat×PL):=[(134480385,(.carry [.tmp 3 false [(.dat (.int .u64))],.mix 20000010 [dY,dO]])),(18049651601311750,(.carry [.tmp 9 false [dI],.tmp 3 false [(.dat (.int .u64))]]))]
noncomputable def qj:(LN×Bool)->Option (Int×(LN×Bool)):=fun (a1,a2) =>
 aA (ah (wK ((8:Int),(a1,a2))) fun (x4,(x5,x6)) =>
 ay (fun (v7,v8) =>
 bif (decide (v7<(x4.length:Int))) then
 bif (decide (((0:Int)<=v7)/\(v7<(x4.length:Int)))) then
 ah x4[v7.toNat]? fun x9 =>
 some (Sum.inl ((IntKind.wrap .i64 (v7+(1:Int))),(IntKind.wrap .u64 (((BitVec.toNat ((BitVec.ofInt 64 (IntKind.wrap .u64 (v8*(256:Int)))) ||| (BitVec.ofInt 64 (IntKind.wrap .u64 x9)))):Nat):Int))))
 else none
 else
 au (some (Sum.inl (v8,(x5,x6))))) ((0:Int),(0:Int))) fun (v14,(v15,v16)) =>
 some (v14,(v15,v16))
noncomputable def IU:List (Nat×CE):=[(123,yI)]
theorem Dj:eH Try.prog IU:=⟨BO,trivial⟩
noncomputable def BP:CE:=⟨[.tmp 0 false [.pt 20000010 0],.mix 20000010 [.dat (.list sW),.dat .bool]],[.tmp 0 false [(.dat (.int .u64))],.mix 20000010 [dY,dO]],qj⟩
theorem ML:aW Try.prog 92 BP :=
 tJ (pX (plan:=wF IQ) (eg:=fC) KK qV (oh Dj) Try.func92 (by kernel_rfl) (by kernel_rfl) 10000 (fun a r h=>Eq.trans (show _=qj a from by kernel_rfl) h)) (by rfl)
def NS:List (Nat×PL):=[(134480385,(.carry [.tmp 3 false [dI],.mix 20000010 [dY,dO]])),(18049651601311750,(.carry [.tmp 9 false [dI],.tmp 3 false [dI]]))]
noncomputable def wL:(LN×Bool)->Option (LU×(LN×Bool)):=fun (a1,a2) =>
 aA (ah (wK ((2:Int),(a1,a2))) fun (x4,(x5,x6)) =>
 ay (fun (v7,v8) =>
 bif (decide (v7<(x4.length:Int))) then
 bif (decide (((0:Int)<=v7)/\(v7<(x4.length:Int)))) then
 ah x4[v7.toNat]? fun x9 =>
 some (Sum.inl ((IntKind.wrap .i64 (v7+(1:Int))),(IntKind.wrap .i64 (((BitVec.toNat ((BitVec.ofInt 64 (IntKind.wrap .i64 (v8*(256:Int)))) ||| (BitVec.ofInt 64 (IntKind.wrap .i64 x9)))):Nat):Int))))
 else none
 else
 au (some (Sum.inl (v8,(x5,x6))))) ((0:Int),(0:Int))) fun (v14,(v15,v16)) =>
 ah (wK (v14,(v15,v16))) fun (x18,(x19,x20)) =>
 some ((mW x18),(x19,x20))
noncomputable def NT:List (Nat×CE):=[(123,yI)]
theorem Gw:eH Try.prog NT:=⟨BO,trivial⟩
noncomputable def Iy:CE:=⟨[.tmp 0 false [.pt 20000010 0],.mix 20000010 [.dat (.list sW),.dat .bool]],[.tmp 0 false [dS],.mix 20000010 [dY,dO]],wL⟩
theorem Rw:aW Try.prog 95 Iy :=
 tJ (pX (plan:=wF NS) (eg:=fC) KK qV (oh Gw) Try.func95 (by kernel_rfl) (by kernel_rfl) 10000 (fun a r h=>Eq.trans (show _=wL a from by kernel_rfl) h)) (by rfl)
def MN:List (Nat×PL):=[]
noncomputable def tV:(LN×Bool)->Option Bool:=fun (a1,a2) =>
 bif (!a2) then
 some (decide ((a1.length:Int)=(0:Int)))
 else
 some false
noncomputable def MP:List (Nat×CE):=[]
theorem ER:eH Try.prog MP:=trivial
noncomputable def ES:CE:=⟨[.tmp 0 false [.pt 20000010 0],.mix 20000010 [.dat (.list sW),.dat .bool]],[.tmp 0 false [dO]],tV⟩
theorem NU:aW Try.prog 93 ES :=
 tJ (pX (plan:=wF MN) (eg:=fC) KK qV (oh ER) Try.func93 (by kernel_rfl) (by kernel_rfl) 10000 (fun a r h=>Eq.trans (show _=tV a from by kernel_rfl) h)) (by rfl)
def NV:List (Nat×PL):=[]
noncomputable def Gx:(Int×((List iO)×((List iO)×(Int×Int))))->Option (Bool×(List iO)):=fun (a1,(a2,(a3,(a4,a5)))) =>
 bif (decide (a1<(1:Int))) then
 some (false,a3)
 else
 bif (decide (a1 > (IntKind.wrap .u64 (a3.length:Int)))) then
 some (false,a3)
 else
 ah (some (IntKind.wrap .u64 (a1-(1:Int)))) fun x7 =>
 bif (decide (((0:Int)<=x7)/\(x7<(a3.length:Int)))) then
 ah a3[x7.toNat]? fun x8 =>
 bif x8.2.2.2.2.2.2.2.2.2 then
 some (false,a3)
 else
 ah (some (IntKind.wrap .u64 (a1-(1:Int)))) fun x9 =>
 bif (decide (((0:Int)<=x9)/\(x9<(a3.length:Int)))) then
 ah a3[x9.toNat]? fun x10 =>
 some (true,(List.set a3 x9.toNat (x10.1,(x10.2.1,(x10.2.2.1,(x10.2.2.2.1,(x10.2.2.2.2.1,(x10.2.2.2.2.2.1,(x10.2.2.2.2.2.2.1,(x10.2.2.2.2.2.2.2.1,(x10.2.2.2.2.2.2.2.2.1,true)))))))))))
 else none
 else none
noncomputable def NW:List (Nat×CE):=[]
theorem Gy:eH Try.prog NW:=trivial
noncomputable def Iz:CE:=⟨[.tmp 0 false [.pt 20000020 0],.tmp 1 false [.dat (.int .u64)],.mix 20000020 [.own 20000021 29 qc,.own 20000022 29 qc,.dat dF,.dat dF]],[.tmp 0 false [dO],.row 20000022 29 pY],Gx⟩
theorem Rx:aW Try.prog 94 Iz :=
 tJ (pX (plan:=wF NV) (eg:=fC) KK qV (oh Gy) Try.func94 (by kernel_rfl) (by kernel_rfl) 10000 (fun a r h=>Eq.trans (show _=Gx a from by kernel_rfl) h)) (by rfl)
def MQ:List (Nat×PL):=[(134480385,(.carry []))]
noncomputable def Bj:(Int×(LU×(LU×(LU×((List iO)×((List iO)×(Int×Int)))))))->Option (Bool×((List iO)×((List iO)×(Int×Int)))):=fun (a1,(a2,(a3,(a4,(a5,(a6,(a7,a8))))))) =>
 bif (decide (a5.length<=a5.length)) then
 ah (iW ((a5.take a5.length),a2)) fun (x10,x11) =>
 aA (bif x11 then
 au (bif ((decide (a5.length<=a5.length))&&(decide (a6.length<=a6.length))) then
 some (false,((a5.take a5.length),((a6.take a6.length),(a7,a8))))
 else none)
 else
 bif (decide ((a5.length:Int)>=(256:Int))) then
 au (bif ((decide (a5.length<=a5.length))&&(decide (a6.length<=a6.length))) then
 some (false,((a5.take a5.length),((a6.take a6.length),(a7,a8))))
 else none)
 else
 ah (aZ ((a2.length:Int),((1:Int),(200:Int)))) fun x12 =>
 bif (!x12) then
 au (bif ((decide (a5.length<=a5.length))&&(decide (a6.length<=a6.length))) then
 some (false,((a5.take a5.length),((a6.take a6.length),(a7,a8))))
 else none)
 else
 bif (decide ((a3.length:Int) > (200:Int))) then
 au (bif ((decide (a5.length<=a5.length))&&(decide (a6.length<=a6.length))) then
 some (false,((a5.take a5.length),((a6.take a6.length),(a7,a8))))
 else none)
 else
 bif (decide ((a4.length:Int) > (200:Int))) then
 au (bif ((decide (a5.length<=a5.length))&&(decide (a6.length<=a6.length))) then
 some (false,((a5.take a5.length),((a6.take a6.length),(a7,a8))))
 else none)
 else
 some (Sum.inl ())) fun _ =>
 ah (oq (a1,(a2,(a3,a4)))) fun (x14,(x15,(x16,(x17,(x18,(x19,(x20,(x21,(x22,x23))))))))) =>
 bif ((decide (a5.length=a5.length))&&true) then
 ah (QS (a5,(x10,((x14,(x15,(x16,(x17,(x18,(x19,(x20,(x21,(x22,x23)))))))))::([]:List iO))))) fun x24 =>
 bif ((decide (x24.length<=x24.length))&&(decide (a6.length<=a6.length))) then
 some (true,((x24.take x24.length),((a6.take a6.length),(a7,a8))))
 else none
 else none
 else none
noncomputable def MR:List (Nat×CE):=[(1000000046,LW),(41,UH),(79,aes),(48,aln)]
theorem ET:eH Try.prog MR:=⟨Yy,LP,Y6,ai0,trivial⟩
noncomputable def EU:CE:=⟨[.tmp 0 false [.pt 20000020 0],.tmp 1 false [.dat dF],.tmp 2 false [.dat .str],.tmp 3 false [.dat .str],.tmp 4 false [.dat .str],.mix 20000020 [.own 20000021 29 qc,.own 20000022 29 qc,.dat dF,.dat dF]],[.tmp 0 false [dO],.mix 20000020 [(.own 10000001 29 pY),(.own 10000002 29 pY),dI,dI],.dead 20000021,.dead 20000022],Bj⟩
theorem NY:aW Try.prog 96 EU :=
 tJ (pX (plan:=wF MQ) (eg:=fC) KK qV (oh ET) Try.func96 (by kernel_rfl) (by kernel_rfl) 10000 (fun a r h=>Eq.trans (show _=Bj a from by kernel_rfl) h)) (by rfl)
def MS:List (Nat×PL):=[]
noncomputable def Bl:(Int×(Int×(LU×((List iO)×((List iO)×(Int×Int))))))->Option (Bool×(List iO)):=fun (a1,(a2,(a3,(a4,(a5,(a6,a7)))))) =>
 bif (decide (a4.length<=a4.length)) then
 ah (iW ((a4.take a4.length),a3)) fun (x9,x10) =>
 bif (!x10) then
 some (false,a4)
 else
 bif (decide (((0:Int)<=x9)/\(x9<(a4.length:Int)))) then
 ah a4[x9.toNat]? fun x11 =>
 bif (decide (a2<x11.2.2.2.2.2.1)) then
 some (false,a4)
 else
 bif (decide (a1=(2:Int))) then
 bif (decide (((0:Int)<=x9)/\(x9<(a4.length:Int)))) then
 ah a4[x9.toNat]? fun x12 =>
 bif (decide (x12.2.2.2.2.1≠(-1:Int))) then
 some (false,a4)
 else
 bif (decide (((0:Int)<=x9)/\(x9<(a4.length:Int)))) then
 ah a4[x9.toNat]? fun x13 =>
 bif (decide (((0:Int)<=x9)/\(x9<(a4.length:Int)))) then
 ah (List.set a4 x9.toNat (x13.1,(x13.2.1,(x13.2.2.1,(x13.2.2.2.1,(a2,(x13.2.2.2.2.2.1,(x13.2.2.2.2.2.2.1,(x13.2.2.2.2.2.2.2.1,(x13.2.2.2.2.2.2.2.2.1,x13.2.2.2.2.2.2.2.2.2))))))))))[x9.toNat]? fun x14 =>
 some (true,(List.set (List.set a4 x9.toNat (x13.1,(x13.2.1,(x13.2.2.1,(x13.2.2.2.1,(a2,(x13.2.2.2.2.2.1,(x13.2.2.2.2.2.2.1,(x13.2.2.2.2.2.2.2.1,(x13.2.2.2.2.2.2.2.2.1,x13.2.2.2.2.2.2.2.2.2)))))))))) x9.toNat (x14.1,(x14.2.1,(x14.2.2.1,(x14.2.2.2.1,(x14.2.2.2.2.1,(a2,(x14.2.2.2.2.2.2.1,(x14.2.2.2.2.2.2.2.1,(x14.2.2.2.2.2.2.2.2.1,x14.2.2.2.2.2.2.2.2.2)))))))))))
 else none
 else none
 else none
 else
 bif (decide (((0:Int)<=x9)/\(x9<(a4.length:Int)))) then
 ah a4[x9.toNat]? fun x15 =>
 some (true,(List.set a4 x9.toNat (x15.1,(x15.2.1,(x15.2.2.1,(x15.2.2.2.1,(x15.2.2.2.2.1,(a2,(x15.2.2.2.2.2.2.1,(x15.2.2.2.2.2.2.2.1,(x15.2.2.2.2.2.2.2.2.1,x15.2.2.2.2.2.2.2.2.2)))))))))))
 else none
 else none
 else none
noncomputable def MV:List (Nat×CE):=[(79,aes)]
theorem EW:eH Try.prog MV:=⟨Y6,trivial⟩
noncomputable def EX:CE:=⟨[.tmp 0 false [.pt 20000020 0],.tmp 1 false [.dat sW],.tmp 2 false [.dat dF],.tmp 3 false [.dat .str],.mix 20000020 [.own 20000021 29 qc,.own 20000022 29 qc,.dat dF,.dat dF]],[.tmp 0 false [dO],.row 20000021 29 pY],Bl⟩
theorem NZ:aW Try.prog 97 EX :=
 tJ (pX (plan:=wF MS) (eg:=fC) KK qV (oh EW) Try.func97 (by kernel_rfl) (by kernel_rfl) 10000 (fun a r h=>Eq.trans (show _=Bl a from by kernel_rfl) h)) (by rfl)
def Ry:List (Nat×PL):=[(4731607904558101300225,(.carry [])),(18049651735527937,(.carry []))]
noncomputable def PG:(Int×(Int×(Int×(Int×(LU×((List iO)×((List iO)×(Int×Int))))))))->Option (Bool×((List iO)×((List iO)×(Int×Int)))):=fun (a1,(a2,(a3,(a4,(a5,(a6,(a7,(a8,a9)))))))) =>
 bif (decide (a6.length<=a6.length)) then
 ah (iW ((a6.take a6.length),a5)) fun (x11,x12) =>
 bif (!x12) then
 bif ((decide (a6.length<=a6.length))&&(decide (a7.length<=a7.length))) then
 some (false,((a6.take a6.length),((a7.take a7.length),(a8,a9))))
 else none
 else
 bif (decide (((0:Int)<=x11)/\(x11<(a6.length:Int)))) then
 ah a6[x11.toNat]? fun x13 =>
 bif (decide (a1<x13.2.2.2.2.2.1)) then
 bif ((decide (a6.length<=a6.length))&&(decide (a7.length<=a7.length))) then
 some (false,((a6.take a6.length),((a7.take a7.length),(a8,a9))))
 else none
 else
 bif (decide (((0:Int)<=x11)/\(x11<(a6.length:Int)))) then
 ah a6[x11.toNat]? fun x14 =>
 bif (decide (a2=(0:Int))) then
 aA (bif (decide (a3≠(0:Int))) then
 au (bif ((decide (a6.length<=a6.length))&&(decide (a7.length<=a7.length))) then
 some (false,((a6.take a6.length),((a7.take a7.length),(a8,a9))))
 else none)
 else
 bif (decide (a4≠(0:Int))) then
 au (bif ((decide (a6.length<=a6.length))&&(decide (a7.length<=a7.length))) then
 some (false,((a6.take a6.length),((a7.take a7.length),(a8,a9))))
 else none)
 else
 bif (decide (x14.2.2.2.2.1≠(-1:Int))) then
 au (bif ((decide (a6.length<=a6.length))&&(decide (a7.length<=a7.length))) then
 some (false,((a6.take a6.length),((a7.take a7.length),(a8,a9))))
 else none)
 else
 some (Sum.inl ())) fun _ =>
 bif (decide (a6.length=a6.length)) then
 ah (NQ (a6,(x11,(IntKind.wrap .i64 (x11+(1:Int)))))) fun x16 =>
 bif ((decide (x16.length<=x16.length))&&(decide (a7.length<=a7.length))) then
 some (true,((x16.take x16.length),((a7.take a7.length),(a8,a9))))
 else none
 else none
 else
 aA (bif (decide (x14.2.2.2.2.1=(-1:Int))) then
 au (bif ((decide (a6.length<=a6.length))&&(decide (a7.length<=a7.length))) then
 some (false,((a6.take a6.length),((a7.take a7.length),(a8,a9))))
 else none)
 else
 bif (decide (a2≠(IntKind.wrap .u64 (IntKind.wrap .i64 (a8+(1:Int)))))) then
 au (bif ((decide (a6.length<=a6.length))&&(decide (a7.length<=a7.length))) then
 some (false,((a6.take a6.length),((a7.take a7.length),(a8,a9))))
 else none)
 else
 bif (decide (a2 > (1048576:Int))) then
 au (bif ((decide (a6.length<=a6.length))&&(decide (a7.length<=a7.length))) then
 some (false,((a6.take a6.length),((a7.take a7.length),(a8,a9))))
 else none)
 else
 some (Sum.inl ())) fun _ =>
 ah (bQ (x14.2.2.2.2.1,a1)) fun x19 =>
 bif (decide (a3≠(IntKind.wrap .u64 x19))) then
 bif ((decide (a6.length<=a6.length))&&(decide (a7.length<=a7.length))) then
 some (false,((a6.take a6.length),((a7.take a7.length),(a8,a9))))
 else none
 else
 bif (decide ((IntKind.wrap .i64 a4)<(0:Int))) then
 bif ((decide (a6.length<=a6.length))&&(decide (a7.length<=a7.length))) then
 some (false,((a6.take a6.length),((a7.take a7.length),(a8,a9))))
 else none
 else
 ah (some (IntKind.wrap .i64 (a8+(1:Int)))) fun x22 =>
 bif (decide (a6.length=a6.length)) then
 ah (NQ (a6,(x11,(IntKind.wrap .i64 (x11+(1:Int)))))) fun x24 =>
 bif (decide (a7.length<=a7.length)) then
 bif (decide (((List.length ((a7.take a7.length)++((x14.1,(x14.2.1,(x14.2.2.1,(x14.2.2.2.1,(x14.2.2.2.2.1,(a1,(x22,(x19,((IntKind.wrap .i64 a4),x14.2.2.2.2.2.2.2.2.2)))))))))::([]:List iO))))*104)<=140737488355328)) then
 ah (some ((a7.take a7.length)++((x14.1,(x14.2.1,(x14.2.2.1,(x14.2.2.2.1,(x14.2.2.2.2.1,(a1,(x22,(x19,((IntKind.wrap .i64 a4),x14.2.2.2.2.2.2.2.2.2)))))))))::([]:List iO)))) fun x25 =>
 bif ((decide (x24.length<=x24.length))&&(decide (x25.length<=x25.length))) then
 some (true,((x24.take x24.length),((x25.take x25.length),(x22,a9))))
 else none
 else none
 else none
 else none
 else none
 else none
 else none
noncomputable def Rz:List (Nat×CE):=[(76,ahu),(1000000088,LX),(79,aes)]
theorem IV:eH Try.prog Rz:=⟨Pm,Yz,Y6,trivial⟩
noncomputable def MW:CE:=⟨[.tmp 0 false [.pt 20000020 0],.tmp 1 false [.dat dF],.tmp 2 false [.dat (.int .u64)],.tmp 3 false [.dat (.int .u64)],.tmp 4 false [.dat (.int .u64)],.tmp 5 false [.dat .str],.mix 20000020 [.own 20000021 29 qc,.own 20000022 29 qc,.dat dF,.dat dF]],[.tmp 0 false [dO],.mix 20000020 [(.own 10000001 29 pY),(.own 10000002 29 pY),dI,dI],.dead 20000022,.dead 20000021],PG⟩
theorem U2:aW Try.prog 98 MW :=
 tJ (pX (plan:=wF Ry) (eg:=fC) KK qV (oh IV) Try.func98 (by kernel_rfl) (by kernel_rfl) 10000 (fun a r h=>Eq.trans (show _=PG a from by kernel_rfl) h)) (by rfl)
def MX:List (Nat×PL):=[(4731607904558235517441,(.carry [.tmp 8 false [dO],.mix 5 [dY,dO],.mix 20000020 [(.own 10000001 29 pY),(.own 10000002 29 pY),dI,dI],.dead 20000021,.dead 20000022])),(166478653092435647486938694421841409,(.carry [.tmp 63 false [dO]]))]
noncomputable def Bo:((Int×LN)×((List iO)×((List iO)×(Int×Int))))->Option (Bool×((List iO)×((List iO)×(Int×Int)))):=fun ((a1,a2),(a3,(a4,(a5,a6)))) =>
 ah (qj (a2,false)) fun (x8,(x9,x10)) =>
 bif (decide (a1=(5:Int))) then
 ah (tV (x9,x10)) fun x11 =>
 bif x11 then
 bif ((decide (a3.length=a3.length))&&(decide (a4.length=a4.length))) then
 ah (Gx (x8,(a3,(a4,(a5,a6))))) fun (x13,x14) =>
 bif ((decide (a3.length<=a3.length))&&(decide (a4.length<=x14.length))) then
 some (x13,((a3.take a3.length),((List.take a4.length x14),(a5,a6))))
 else none
 else none
 else
 bif ((decide (a3.length<=a3.length))&&(decide (a4.length<=a4.length))) then
 some (false,((a3.take a3.length),((a4.take a4.length),(a5,a6))))
 else none
 else
 bif x10 then
 bif ((decide (a3.length<=a3.length))&&(decide (a4.length<=a4.length))) then
 some (false,((a3.take a3.length),((a4.take a4.length),(a5,a6))))
 else none
 else
 bif (decide (x8 > (1099511627776:Int))) then
 bif ((decide (a3.length<=a3.length))&&(decide (a4.length<=a4.length))) then
 some (false,((a3.take a3.length),((a4.take a4.length),(a5,a6))))
 else none
 else
 aA (bif (decide (a1=(1:Int))) then
 ah (wL (x9,x10)) fun (x17,(x18,x19)) =>
 ah (wL (x18,x19)) fun (x21,(x22,x23)) =>
 ah (wL (x22,x23)) fun (x25,(x26,x27)) =>
 ah (tV (x26,x27)) fun x28 =>
 bif x28 then
 bif ((decide (a3.length=a3.length))&&(decide (a4.length=a4.length))) then
 ah (Bj ((IntKind.wrap .i64 x8),(x17,(x21,(x25,(a3,(a4,(a5,a6)))))))) fun (x30,(x31,(x32,(x33,x34)))) =>
 bif ((decide (x31.length<=x31.length))&&(decide (x32.length<=x32.length))) then
 some (Sum.inl (x30,((x26,x27),((x31.take x31.length),((x32.take x32.length),(x33,x34))))))
 else none
 else none
 else
 bif ((decide (a3.length<=a3.length))&&(decide (a4.length<=a4.length))) then
 some (Sum.inl (false,((x26,x27),((a3.take a3.length),((a4.take a4.length),(a5,a6))))))
 else none
 else
 aA (bif (decide (a1=(2:Int))) then
 some (Sum.inl true)
 else
 some (Sum.inl (decide (a1=(3:Int))))) fun v35 =>
 bif v35 then
 ah (wL (x9,x10)) fun (x37,(x38,x39)) =>
 ah (tV (x38,x39)) fun x40 =>
 bif x40 then
 bif ((decide (a3.length=a3.length))&&(decide (a4.length=a4.length))) then
 ah (Bl (a1,((IntKind.wrap .i64 x8),(x37,(a3,(a4,(a5,a6))))))) fun (x42,x43) =>
 bif ((decide (a3.length<=x43.length))&&(decide (a4.length<=a4.length))) then
 some (Sum.inl (x42,((x38,x39),((List.take a3.length x43),((a4.take a4.length),(a5,a6))))))
 else none
 else none
 else
 bif ((decide (a3.length<=a3.length))&&(decide (a4.length<=a4.length))) then
 some (Sum.inl (false,((x38,x39),((a3.take a3.length),((a4.take a4.length),(a5,a6))))))
 else none
 else
 bif (decide (a1=(4:Int))) then
 ah (qj (x9,x10)) fun (x45,(x46,x47)) =>
 ah (qj (x46,x47)) fun (x49,(x50,x51)) =>
 ah (qj (x50,x51)) fun (x53,(x54,x55)) =>
 ah (wL (x54,x55)) fun (x57,(x58,x59)) =>
 ah (tV (x58,x59)) fun x60 =>
 bif x60 then
 bif ((decide (a3.length=a3.length))&&(decide (a4.length=a4.length))) then
 ah (PG ((IntKind.wrap .i64 x8),(x45,(x49,(x53,(x57,(a3,(a4,(a5,a6))))))))) fun (x62,(x63,(x64,(x65,x66)))) =>
 bif ((decide (x63.length<=x63.length))&&(decide (x64.length<=x64.length))) then
 some (Sum.inl (x62,((x58,x59),((x63.take x63.length),((x64.take x64.length),(x65,x66))))))
 else none
 else none
 else
 bif ((decide (a3.length<=a3.length))&&(decide (a4.length<=a4.length))) then
 some (Sum.inl (false,((x58,x59),((a3.take a3.length),((a4.take a4.length),(a5,a6))))))
 else none
 else
 bif ((decide (a3.length<=a3.length))&&(decide (a4.length<=a4.length))) then
 some (Sum.inl (false,((x9,x10),((a3.take a3.length),((a4.take a4.length),(a5,a6))))))
 else none) fun (v67,((v68,v69),(v70,(v71,(v72,v73))))) =>
 bif v67 then
 bif ((decide (v70.length<=v70.length))&&(decide (v71.length<=v71.length))) then
 some (v67,((v70.take v70.length),((v71.take v71.length),(v72,(dK v73 (IntKind.wrap .i64 x8))))))
 else none
 else
 bif ((decide (v70.length<=v70.length))&&(decide (v71.length<=v71.length))) then
 some (v67,((v70.take v70.length),((v71.take v71.length),(v72,v73))))
 else none
noncomputable def MZ:List (Nat×CE):=[(92,BP),(95,Iy),(93,ES),(94,Iz),(96,EU),(97,EX),(98,MW)]
theorem EY:eH Try.prog MZ:=⟨ML,Rw,NU,Rx,NY,NZ,U2,trivial⟩
noncomputable def EZ:CE:=⟨[.tmp 0 false [.pt 20000020 0],.tmp 1 true [.dat sW,.dat (.list sW)],.mix 20000020 [.own 20000021 29 qc,.own 20000022 29 qc,.dat dF,.dat dF]],[.tmp 0 false [dO],.mix 20000020 [(.own 10000003 29 pY),(.own 10000004 29 pY),dI,dI],.dead 20000021,.dead 20000022],Bo⟩
theorem N7:aW Try.prog 71 EZ :=
 tJ (pX (plan:=wF MX) (eg:=fC) KK qV (oh EY) Try.func71 (by kernel_rfl) (by kernel_rfl) 10000 (fun a r h=>Eq.trans (show _=Bo a from by kernel_rfl) h)) (by rfl)
def amf:List (Nat×PL):=[(35253226045953,(.carry [.mix 20 [(.own 10000003 29 pY),(.own 10000004 29 pY),dI,dI]])),(4731607904558101301254,(.carry [.tmp 34 false [dI],.mix 20 [(.own 10000001 29 pY),(.own 10000002 29 pY),dI,dI]])),(4731607904558235516954,(.carry [.tmp 0 false [(.own 10000005 29 pY)]])),(635065662736647214774471623169,(.carry [.tmp 3 false [dI]])),(85237070383327051504557613662081386502,(.carry [.tmp 11 false [dI],.tmp 3 false [dI]])),(166478653092435647469839089184014849,(.carry [.tmp 6 false [(.own 10000007 29 pY)],.dead 52])),(22344386578566886589610751075867846817089542,(.carry [.tmp 27 false [dI],.tmp 6 false [(.own 10000006 29 pY)],.dead 52])),(4731607904558235517441,(.carry [.mix 45 [dY,dI,dI,(.dat (.list pY)),dI,dI],.dead 10000005])),(635065662736647214839701440518,(.carry [.tmp 73 false [dI],.mix 45 [dY,dI,dI,(.dat (.list pY)),dI,dI],.dead 10000005]))]
noncomputable def jZ:(LN×(((List (LU×(Int×(Int×(Int×(List ((Int×(Int×Int))×(Int×Int))))))))×Int)×Int))->Option ((yU)×Int):=fun (a1,((a2,a3),a4)) =>
 ah (aV (a2,a3)) fun x5 =>
 bif (!x5) then
 some ((([]:List Int),((0:Int),((0:Int),(([]:List iO),((0:Int),(0:Int)))))),(2:Int))
 else
 ah (aZ (a4,((0:Int),(1099511627776:Int)))) fun x6 =>
 bif (!x6) then
 some ((([]:List Int),((0:Int),((0:Int),(([]:List iO),((0:Int),(0:Int)))))),(2:Int))
 else
 ah (jY a1) fun ((x8,(x9,x10)),x11) =>
 aA (ay (fun (v12,(v13,(v14,(v15,v16)))) =>
 bif (decide (v12<(x11.length:Int))) then
 bif (decide (((0:Int)<=v12)/\(v12<(x11.length:Int)))) then
 ah x11[v12.toNat]? fun x17 =>
 bif ((decide (v13.length=v13.length))&&(decide (v14.length=v14.length))) then
 ah (Bo ((x17.1,x17.2),(v13,(v14,(v15,v16))))) fun (x19,(x20,(x21,(x22,x23)))) =>
 bif (!x19) then
 au (au (some ((([]:List Int),((0:Int),((0:Int),(([]:List iO),((0:Int),(0:Int)))))),(5:Int))))
 else
 bif ((decide (x20.length<=x20.length))&&(decide (x21.length<=x21.length))) then
 some (Sum.inl ((IntKind.wrap .i64 (v12+(1:Int))),((x20.take x20.length),((x21.take x21.length),(x22,x23)))))
 else none
 else none
 else none
 else
 au (bif ((decide (v13.length<=v13.length))&&(decide (v14.length<=v14.length))) then
 some (Sum.inl ((v13.take v13.length),((v14.take v14.length),(v15,v16))))
 else none)) ((0:Int),(([]:List iO),(([]:List iO),((0:Int),(0:Int)))))) fun (v25,(v26,(v27,v28))) =>
 bif (decide (a4<v28)) then
 some ((([]:List Int),((0:Int),((0:Int),(([]:List iO),((0:Int),(0:Int)))))),(9:Int))
 else
 bif ((decide (v25.length<=v25.length))&&(decide (v26.length<=v26.length))) then
 aA (aA (ay (fun (v29,v30) =>
 bif (decide (v29<(2:Int))) then
 bif (decide (((0:Int)<=v29)/\(v29<(2:Int)))) then
 ah ((v25.take v25.length)::((v26.take v26.length)::([]:List (List iO))))[v29.toNat]? fun x31 =>
 ah (some (IntKind.wrap .i64 (v30+(x31.length:Int)))) fun x32 =>
 bif (decide (x32<(0:Int))) then
 none
 else
 some (Sum.inl ((IntKind.wrap .i64 (v29+(1:Int))),x32))
 else none
 else
 au (some (Sum.inl v30))) ((0:Int),(0:Int))) fun v34 =>
 ah (Ih v34) fun x35 =>
 aA (bif (decide (x35.length<=x35.length)) then
 ay (fun (v36,v37) =>
 bif (decide (v36<(2:Int))) then
 bif (decide (((0:Int)<=v36)/\(v36<(2:Int)))) then
 ah ((v25.take v25.length)::((v26.take v26.length)::([]:List (List iO))))[v36.toNat]? fun x38 =>
 bif (decide (v37.length<=v37.length)) then
 bif (decide (((List.length ((v37.take v37.length)++x38))*104)<=140737488355328)) then
 ah (some ((v37.take v37.length)++x38)) fun x39 =>
 bif (decide (x39.length<=x39.length)) then
 some (Sum.inl ((IntKind.wrap .i64 (v36+(1:Int))),(x39.take x39.length)))
 else none
 else none
 else none
 else none
 else
 au (bif (decide (v37.length<=v37.length)) then
 some (Sum.inl (v37.take v37.length))
 else none)) ((0:Int),(x35.take x35.length))
 else none) fun v41 =>
 bif (decide (v41.length<=v41.length)) then
 some (Sum.inl (v41.take v41.length))
 else none) fun v42 =>
 aA (bif (decide (v42.length<=v42.length)) then
 ay (fun (v43,(v44,(v45,(v46,(v47,(v48,v49)))))) =>
 bif (decide (v43<(v25.length:Int))) then
 bif (decide (((0:Int)<=(0:Int))/\((0:Int)<(v47.length:Int)))) then
 ah v47[0]? fun x50 =>
 ah (jf ((v44,(v45,(v46,(v47,(v48,v49))))),((a2,a3),((0:Int),x50.2.2.2.2.2.1)))) fun ((x52,(x53,(x54,(x55,(x56,x57))))),x58) =>
 bif (decide (x58≠(0:Int))) then
 au (au (some ((([]:List Int),((0:Int),((0:Int),(([]:List iO),((0:Int),(0:Int)))))),x58)))
 else
 some (Sum.inl ((IntKind.wrap .i64 (v43+(1:Int))),(x52,(x53,(x54,(x55,(x56,x57)))))))
 else none
 else
 au (some (Sum.inl (v44,(v45,(v46,(v47,(v48,v49)))))))) ((0:Int),(x8,(x9,(x10,((v42.take v42.length),(v27,a4))))))
 else none) fun (v60,(v61,(v62,(v63,(v64,v65))))) =>
 some ((v60,(v61,(v62,(v63,(v64,v65))))),(0:Int))
 else none
noncomputable def aoI:CE:=⟨[(.tmp 0 false [dY])],[(.tmp 0 true [dY,dI,dI]),(.tmp 1 false [(.dat (.list (.pair sW (.list sW))))])],jY⟩
noncomputable def U3:CE:=⟨[.tmp 0 false [.nil],.tmp 1 false [.dat dF]],[.tmp 0 false [.own 20000003 29 qc]],Ih⟩
noncomputable def amg:List (Nat×CE):=[(61,an0),(70,aoI),(99,U3),(41,UH),(62,alE),(71,EZ)]
theorem abC:eH Try.prog amg:=⟨YM,akQ,adX,LP,ai4,N7,trivial⟩
noncomputable def aoJ:CE:=⟨[(.tmp 0 false [dY]),(.tmp 1 true [(.dat (.list (.pair .str (.pair dF (.pair dF (.pair dF (.list (.pair (.pair sW (.pair dF dF)) (.pair dF dF))))))))),dI]),(.tmp 2 false [dI])],[(.tmp 0 true [dY,dI,dI,(.dat (.list pY)),dI,dI]),(.tmp 1 false [Fa])],jZ⟩
theorem aoK:aW Try.prog 29 aoJ :=nR amf fC abC Try.func29
set_option maxRecDepth 100000
noncomputable def cnB {δ:Type} (x4 x5:List Int) (x6:Bool):(Int×Int)->Option ((Int×Int) ⊕ ((Int×(List Int×Bool)) ⊕ δ)) :=
 (fun (v7,v8) =>
 bif (decide (v7<(x4.length:Int))) then
 bif (decide (((0:Int)<=v7)/\(v7<(x4.length:Int)))) then
 ah x4[v7.toNat]? fun x9 =>
 some (Sum.inl ((IntKind.wrap .i64 (v7+(1:Int))),(IntKind.wrap .u64 (((BitVec.toNat ((BitVec.ofInt 64 (IntKind.wrap .u64 (v8*(256:Int)))) ||| (BitVec.ofInt 64 (IntKind.wrap .u64 x9)))):Nat):Int))))
 else none
 else
 au (some (Sum.inl (v8,(x5,x6)))))
theorem U4 (a1:List Int) (a2:Bool):qj (a1,a2) =
 aA (ah (wK ((8:Int),(a1,a2))) fun (x4,(x5,x6)) =>
 ay (cnB x4 x5 x6) ((0:Int),(0:Int))) fun (v14,(v15,v16)) =>
 some (v14,(v15,v16)):=rfl
noncomputable def cxB {δ:Type} (x4 x5:List Int) (x6:Bool):(Int×Int)->Option ((Int×Int) ⊕ ((Int×(List Int×Bool)) ⊕ δ)) :=
 (fun (v7,v8) =>
 bif (decide (v7<(x4.length:Int))) then
 bif (decide (((0:Int)<=v7)/\(v7<(x4.length:Int)))) then
 ah x4[v7.toNat]? fun x9 =>
 some (Sum.inl ((IntKind.wrap .i64 (v7+(1:Int))),(IntKind.wrap .i64 (((BitVec.toNat ((BitVec.ofInt 64 (IntKind.wrap .i64 (v8*(256:Int)))) ||| (BitVec.ofInt 64 (IntKind.wrap .i64 x9)))):Nat):Int))))
 else none
 else
 au (some (Sum.inl (v8,(x5,x6)))))
theorem abD (a1:List Int) (a2:Bool):wL (a1,a2) =
 aA (ah (wK ((2:Int),(a1,a2))) fun (x4,(x5,x6)) =>
 ay (cxB x4 x5 x6) ((0:Int),(0:Int))) fun (v14,(v15,v16)) =>
 ah (wK (v14,(v15,v16))) fun (x18,(x19,x20)) =>
 some ((mW x18),(x19,x20)):=rfl
def val (l:List Int):Int:=l.foldl (fun a x=>a*256+x) 0
theorem Na (l:List Int) (x:Int):val (l++[x])=val l*256+x:=by unfold val;rw [List.foldl_append];rfl
theorem Jh {l:List Int} (h:Bytes l):0<=val l/\val l<256 ^ l.length:=by
 induction hn:l.length generalizing l with
 | zero =>
   rw [List.length_eq_zero_iff.1 hn];exact ⟨Int.le_refl 0,by decide⟩
 | succ n ih =>
   rcases List.eq_nil_or_concat l with e | ⟨l',c,e⟩
   ·rw [e] at hn;cases hn
   ·rw [List.concat_eq_append] at e;subst e;have hl':l'.length=n:=by simpa using hn
    have h1:=ih (fun x hx=>h x (List.mem_append_left _ hx)) hl';have h2:=h c (by simp);rw [Na,Int.pow_succ];omega
theorem amh {x y:Int} (hx:0<=x/\x*256+255<18446744073709551616) (hy:0<=y/\y<=255):IntKind.wrap .u64 (((BitVec.toNat ((BitVec.ofInt 64 (IntKind.wrap .u64 (x*(256:Int)))) ||| (BitVec.ofInt 64 (IntKind.wrap .u64 y)))):Nat):Int)=x*256+y:=by
 obtain ⟨a,rfl⟩:=Int.eq_ofNat_of_zero_le hx.1;obtain ⟨b,rfl⟩:=Int.eq_ofNat_of_zero_le hy.1;rw [Df,Df,Df,Int.emod_eq_of_lt (a:=(b:Int)) (by omega) (by omega),Int.emod_eq_of_lt (a:=(a:Int)*256) (by omega) (by omega)];rw [BitVec.toNat_or,show ((a:Int)*256)=((a*256:Nat):Int) from by omega,BitVec.ofInt_natCast,BitVec.ofInt_natCast,BitVec.toNat_ofNat,BitVec.toNat_ofNat,Nat.mod_eq_of_lt (by omega),Nat.mod_eq_of_lt (by omega)];have:=Nat.shiftLeft_add_eq_or_of_lt (i:=8) (b:=b) (by omega) a;rw [Nat.shiftLeft_eq] at this;rw [<-this];omega
theorem ami {x y:Int} (hx:0<=x/\x*256+255<9223372036854775808) (hy:0<=y/\y<=255):IntKind.wrap .i64 (((BitVec.toNat ((BitVec.ofInt 64 (IntKind.wrap .i64 (x*(256:Int)))) ||| (BitVec.ofInt 64 (IntKind.wrap .i64 y)))):Nat):Int)=x*256+y:=by
 obtain ⟨a,rfl⟩:=Int.eq_ofNat_of_zero_le hx.1;obtain ⟨b,rfl⟩:=Int.eq_ofNat_of_zero_le hy.1;rw [aj (n:=(a:Int)*256) (by omega),aj (n:=(b:Int)) (by omega)];rw [BitVec.toNat_or,show ((a:Int)*256)=((a*256:Nat):Int) from by omega,BitVec.ofInt_natCast,BitVec.ofInt_natCast,BitVec.toNat_ofNat,BitVec.toNat_ofNat,Nat.mod_eq_of_lt (by omega),Nat.mod_eq_of_lt (by omega)];have:=Nat.shiftLeft_add_eq_or_of_lt (i:=8) (b:=b) (by omega) a;rw [Nat.shiftLeft_eq] at this;rw [<-this,aj (by omega)];omega
theorem ah0 {δ:Type} (L R:List Int) (E:Bool) (hL:Bytes L) (hl:L.length<=8):ay (cnB (δ:=δ) L R E) (0,0)=some (.inl (val L,(R,E))):=by
 refine bI (fun i=>((i:Int),val (L.take i))) L.length rfl (fun i hi => ?_) ?_
 ·obtain ⟨x,hx,hxb⟩:=get_at (0:Int) hi;have ht:=take_snoc L 0 hi;rw [hx] at ht;have hb:Bytes (L.take i):=fun y hy=>hL y (List.mem_of_mem_take hy);have hx8:0<=x/\x<=255:=by rw [<-hx];exact hL.getD i
  have hr:=Jh hb;have hlt:(L.take i).length<=8-1:=by rw [List.length_take];omega
  have hp:(256:Int) ^ (L.take i).length<=256 ^ (8-1):=by
   have:=Nat.pow_le_pow_right (show 0<256 by decide) hlt
   exact_mod_cast this
  have h7:(256:Int) ^ (8-1)*256<=18446744073709551616:=by decide
  have h8:(256:Int) ^ (8-1)<=72057594037927936:=by decide
  have hv:val (L.take (i+1))=val (L.take i)*256+x:=by rw [ht,Na]
  simp only [hv];generalize hV:val (L.take i)=V at hr ⊢;have ho:=amh (x:=V) (y:=x) ⟨by omega,by have h9:(256:Int) ^ (8-1)*256<=18446744073709551616:=(by decide);omega⟩ hx8;unfold cnB;simp (disch:=(first | omega | (simp only [bM];omega))) only [↓aF,aG,if_pos,if_neg,↓hxb,aj,↓ho];rfl
 ·unfold cnB;simp (disch:=(first | omega | (simp only [bM];omega))) only [↓aF,aG,if_neg,List.take_length]
theorem ah1 {δ:Type} (L R:List Int) (E:Bool) (hL:Bytes L) (hl:L.length<=2):ay (cxB (δ:=δ) L R E) (0,0)=some (.inl (val L,(R,E))):=by
 refine bI (fun i=>((i:Int),val (L.take i))) L.length rfl (fun i hi => ?_) ?_
 ·obtain ⟨x,hx,hxb⟩:=get_at (0:Int) hi;have ht:=take_snoc L 0 hi;rw [hx] at ht;have hb:Bytes (L.take i):=fun y hy=>hL y (List.mem_of_mem_take hy);have hx8:0<=x/\x<=255:=by rw [<-hx];exact hL.getD i
  have hr:=Jh hb;have hlt:(L.take i).length<=2-1:=by rw [List.length_take];omega
  have hp:(256:Int) ^ (L.take i).length<=256 ^ (2-1):=by
   have:=Nat.pow_le_pow_right (show 0<256 by decide) hlt
   exact_mod_cast this
  have h7:(256:Int) ^ (2-1)*256<=18446744073709551616:=by decide
  have h8:(256:Int) ^ (2-1)<=72057594037927936:=by decide
  have hv:val (L.take (i+1))=val (L.take i)*256+x:=by rw [ht,Na]
  simp only [hv];generalize hV:val (L.take i)=V at hr ⊢;have ho:=ami (x:=V) (y:=x) ⟨by omega,by have h9:(256:Int) ^ (2-1)*256<=9223372036854775808:=(by decide);omega⟩ hx8;unfold cxB;simp (disch:=(first | omega | (simp only [bM];omega))) only [↓aF,aG,if_pos,if_neg,↓hxb,aj,↓ho];rfl
 ·unfold cxB;simp (disch:=(first | omega | (simp only [bM];omega))) only [↓aF,aG,if_neg,List.take_length]
def Nb (n:Nat) (r:List Int) (s:Bool):List Int×(List Int×Bool):=if s=true\/r.length<n then ([],(r,true)) else (r.take n,(r.drop n,false))
theorem Xn (n:Nat) (r:List Int) (s:Bool):wK ((n:Int),(r,s))=some (Nb n r s):=by
 unfold wK Nb;cases s
 ·by_cases h:r.length<n
  ·rw [if_pos (.inr h)];simp (disch:=(first | omega | (simp only [bM];omega))) only [↓aF,aG,if_pos]
  ·rw [if_neg (by rintro (h0 | h0);exact absurd h0 (by simp);exact h h0)];simp (disch:=(first | omega | (simp only [bM];omega))) only [↓aF,aG,if_pos,if_neg,Int.toNat_natCast]
 ·rw [if_pos (.inl rfl)];rfl
def rdN (r:List Int) (s:Bool):Int×(List Int×Bool):=(val (Nb 8 r s).1,(Nb 8 r s).2)
def rdT (r:List Int) (s:Bool):Tx×(List Int×Bool):=(mW (Nb (val (Nb 2 r s).1).toNat (Nb 2 r s).2.1 (Nb 2 r s).2.2).1,(Nb (val (Nb 2 r s).1).toNat (Nb 2 r s).2.1 (Nb 2 r s).2.2).2)
theorem qO {n:Nat} {r:List Int} {s:Bool} (h:Bytes r):Bytes (Nb n r s).1/\Bytes (Nb n r s).2.1/\(Nb n r s).1.length<=n:=by
 unfold Nb;by_cases h0:s=true\/r.length<n
 ·rw [if_pos h0];exact ⟨fun x (hx:x∈([]:List Int))=>(by cases hx),h,Nat.zero_le _⟩
 ·rw [if_neg h0];exact ⟨fun x hx=>h x (List.mem_of_mem_take hx),fun x hx=>h x (List.mem_of_mem_drop hx),by show (r.take n).length<=n;rw [List.length_take];omega⟩
theorem aoL (r:List Int) (s:Bool) (h:Bytes r):qj (r,s)=some (rdN r s):=by
 rw [U4];have e:=Xn 8 r s;obtain ⟨h1,h2,h3⟩:=qO (n:=8) (s:=s) h;rw [show ((8:Nat):Int)=(8:Int) from rfl] at e;rw [e];unfold rdN;generalize Nb 8 r s=t at *
 obtain ⟨t1,t2,t3⟩:=t;replace h1:Bytes t1:=h1;replace h3:t1.length<=_:=h3;simp only [↓aF,aG,ah0 t1 t2 t3 h1 h3]
theorem aoM (r:List Int) (s:Bool) (h:Bytes r):wL (r,s)=some (rdT r s):=by
 rw [abD];have e:=Xn 2 r s;obtain ⟨h1,h2,h3⟩:=qO (n:=2) (s:=s) h;rw [show ((2:Nat):Int)=(2:Int) from rfl] at e;rw [e];unfold rdT;generalize Nb 2 r s=t at *
 obtain ⟨t1,t2,t3⟩:=t;replace h1:Bytes t1:=h1;replace h3:t1.length<=_:=h3;have hv:=Jh h1;have e2:=Xn (val t1).toNat t2 t3;rw [show (((val t1).toNat:Nat):Int)=val t1 from by omega] at e2;simp only [↓aF,aG,ah1 t1 t2 t3 h1 h3];rw [e2];rfl
theorem ah2 (r:List Int) (s:Bool):tV (r,s)=some (decide (s=false/\r=[])):=by
 unfold tV;cases s
 ·cases r with
  | nil=>rfl
  | cons a l=>simp;omega
 ·rfl
theorem Zy {β:Type} {r:List Int} (s:Bool) (h:Bytes r) (f:_->Option β):ah (qj (r,s)) f=f (rdN r s):=by rw [aoL r s h];rfl
theorem U5 {β:Type} {r:List Int} (s:Bool) (h:Bytes r) (f:_->Option β):ah (wL (r,s)) f=f (rdT r s):=by rw [aoM r s h];rfl
theorem Zz {β:Type} (r:List Int) (s:Bool) (f:Bool->Option β):ah (tV (r,s)) f=f (decide (s=false/\r=[])):=by rw [ah2];rfl
theorem qP {r:List Int} {s:Bool} (h:Bytes r):Bytes (rdN r s).2.1:=(qO h).2.1
theorem Gz {r:List Int} {s:Bool} (h:Bytes r):Bytes (rdT r s).2.1:=(qO (qO h).2.1).2.1
theorem Bq {r:List Int} {s:Bool} (h:Bytes r):0<=(rdN r s).1/\(rdN r s).1<18446744073709551616:=by
 have h1:=Jh (qO (n:=8) (s:=s) h).1;have h2:=(qO (n:=8) (s:=s) h).2.2;have hp:(256:Int) ^ (Nb 8 r s).1.length<=256 ^ 8:=by
  have:=Nat.pow_le_pow_right (show 0<256 by decide) h2
  exact_mod_cast this
 have h8:(256:Int) ^ 8=18446744073709551616:=by decide
 show 0<=val (Nb 8 r s).1/\val (Nb 8 r s).1<18446744073709551616;omega
set_option maxHeartbeats 4000000
theorem VL.opb {g:LG} (h:VL g) {p:Nat} (hp:p<opn g.2.2.2.1):Opb (g.2.2.2.1.getD p b0):=by
 have ho:=sK g.2.2.2.1;have hb:=h.at (i:=p) (by omega);have hz:=MF hp;obtain ⟨k1,k2,k3,k4,k5⟩:=hb;refine ⟨?_,?_,k1.2.1⟩
 ·rcases k5 with k5 | k5
  ·exact ⟨k5.1,k5.2.1,k5.2.2.1⟩
  ·exact (k5.1 hz).elim
 ·have:=k2.1;omega
open Classical in
noncomputable def N8 (g:LG) (rs:List Ra) (fr:Int) (c:Tx) (t:Int):LG×Int :=
 if Tm g t/\Rt.TV rs fr then (if Di c g.2.2.2.1 then sS rs fr g (gZ c g.2.2.2.1) t t else (zG,8)) else (zG,2)
theorem ajj (g:LG) (rs:List Ra) (fr:Int) (c:Tx) (t:Int) (hl:g.2.2.2.1.length<=1000000) (hB:g.1.length<=900000):pq (g,((rs,fr),(c,t)))=some (N8 g rs fr c t):=by
 have ho:=sK g.2.2.2.1;rw [aox];unfold N8;by_cases h:Tm g t/\Rt.TV rs fr
 ·rw [if_pos h];obtain ⟨htm,hr⟩:=h;have hv:=htm.1;have ht:=htm.2;have h0:=hv.2.1;have hs:=hv.srt;have hR:∀ {β:Type} (f:Bool->Option β),ah (aV (rs,fr)) f=f true:=fun f=>by rw [Rt.jA hr];rfl
  by_cases hf:Di c g.2.2.2.1
  ·rw [if_pos hf];have hlt:gZ c g.2.2.2.1<g.2.2.2.1.length:=by have:=hf.1;omega
   have hfin:=aji rs fr g t hlt hl hB ⟨hv.1.1,hv.1.2.1⟩ hv.1.2.2.1 hv.2.2.1 (hv.opb hf.1) ⟨by omega,ht.2⟩;have hF:∀ {β:Type} (f:LG×Int->Option β),ah (jf (g,((rs,fr),(((gZ c g.2.2.2.1:Nat):Int),t)))) f=f (sS rs fr g (gZ c g.2.2.2.1) t g.2.2.2.2.2):=fun f=>by rw [hfin];rfl
   simp (disch:=(first | omega | (simp only [bM];omega))) only [↓aF,aG,↓(nK g hl).b,dM hv,↓jB,if_pos,↓hR,↓sO g c hl hs,dM hf,↓hF];unfold sS;split
   ·rfl
   ·rfl
  ·rw [if_neg hf];simp (disch:=(first | omega | (simp only [bM];omega))) only [↓aF,aG,↓(nK g hl).b,dM hv,↓jB,if_pos,↓hR,↓sO g c hl hs,jL hf];rfl
 ·rw [if_neg h];by_cases hv:VL g
  ·by_cases h1:g.2.2.2.2.2<=t/\t<=1099511627776
   ·have hr:¬Rt.TV rs fr:=fun k=>h ⟨⟨hv,h1⟩,k⟩;have hR:∀ {β:Type} (f:Bool->Option β),ah (aV (rs,fr)) f=f false:=fun f=>by rw [Rt.Af hr];rfl
    simp (disch:=(first | omega | (simp only [bM];omega))) only [↓aF,aG,↓(nK g hl).b,dM hv,↓jB,if_pos,↓hR];rfl
   ·simp (disch:=(first | omega | (simp only [bM];omega))) only [↓aF,aG,↓(nK g hl).b,dM hv,↓jB,if_neg,h1,decide_false];rfl
  ·simp only [↓aF,aG,↓(nK g hl).b,jL hv];rfl
def Rec (n:Int) (l:List BL) (i:Nat):Prop:=n > 0/\(l.getD i b0).2.2.2.2.2.2.1=n
def U6 (x:BL):BL:=(x.1,(x.2.1,(x.2.2.1,(x.2.2.2.1,(x.2.2.2.2.1,(x.2.2.2.2.2.1,(x.2.2.2.2.2.2.1,(x.2.2.2.2.2.2.2.1,(x.2.2.2.2.2.2.2.2.1,true)))))))))
noncomputable def gvR (g:LG) (n:Int) (i:Nat):LG×Int :=
 if (g.2.2.2.1.getD i b0).2.2.2.2.2.2.2.2.2=true then (zG,9) else if g.2.2.1>=1048576 then (zG,10) else
 ((g.1++Jn.jR g.2.2.1 5 (lW [n] []),(g.2.1,(g.2.2.1+1,(g.2.2.2.1.set i (U6 (g.2.2.2.1.getD i b0)),(g.2.2.2.2.1,g.2.2.2.2.2))))),0)
theorem aoN (g:LG) (n:Int) (hl:g.2.2.2.1.length<=1000000):(∃i,i<g.2.2.2.1.length/\Rec n g.2.2.2.1 i/\(∀j,j<i->¬Rec n g.2.2.2.1 j)/\dN (g,n)=some ((i:Nat):Int))\/((∀i,i<g.2.2.2.1.length->¬Rec n g.2.2.2.1 i)/\dN (g,n)=some (-1:Int)):=by
 rw [aon];have hL:=nH (body:=rcB g n) g.2.2.2.1.length (fun i=>Rec n g.2.2.2.1 i) (fun i => .inr ((i:Nat):Int)) (.inl ()) (fun i hi hn=>by
  obtain ⟨x,hx,hxb⟩:=get_at b0 hi;unfold Rec at hn;rw [hx] at hn;unfold rcB;by_cases h0:n > 0
  ·have h1:¬x.2.2.2.2.2.2.1=n:=fun k=>hn ⟨h0,k⟩;simp (disch:=(first | omega | (simp only [bM];omega))) only [↓aF,aG,if_pos,if_neg,↓hxb,aj];rfl
  ·simp (disch:=(first | omega | (simp only [bM];omega))) only [↓aF,aG,if_pos,if_neg,↓hxb,aj];rfl) (fun i hi hn=>by
  obtain ⟨x,hx,hxb⟩:=get_at b0 hi;unfold Rec at hn;rw [hx] at hn;unfold rcB;simp (disch:=(first | omega | (simp only [bM];omega))) only [↓aF,aG,if_pos,if_neg,↓hxb]) (by
  unfold rcB;simp (disch:=(first | omega | (simp only [bM];omega))) only [↓aF,aG,if_neg])
 rcases hL with ⟨i,k1,k2,k3,e⟩ | ⟨k,e⟩
 ·exact .inl ⟨i,k1,k2,k3,by rw [e];rfl⟩
 ·exact .inr ⟨k,by rw [e];rfl⟩
theorem VL.num {g:LG} (h:VL g) {i:Nat} (hi:i<g.2.2.2.1.length):0<=(g.2.2.2.1.getD i b0).2.2.2.2.2.2.1/\(g.2.2.2.1.getD i b0).2.2.2.2.2.2.1<=1048576/\(opn g.2.2.2.1<=i->1<=(g.2.2.2.1.getD i b0).2.2.2.2.2.2.1):=by
 have hp:=PE h.2.2.1 (i:=i) (fun j hj=>h.2.2.2.2 j (by omega));have h3:=h.2.2.1;rcases (h.2.2.2.2 i hi).2 with ⟨k,_⟩ | ⟨k,k2,k3⟩
 ·rw [MF k];omega
 ·omega
theorem aqc {n:Int} (h:0<=n/\n<=1048576):DOk [n] []/\(lW [n] []).length<=4096:=by
 refine ⟨⟨⟨by simp,fun m hm => ?_⟩,by simp,fun t ht=>by cases ht⟩,?_⟩
 ·rw [List.mem_singleton] at hm;subst hm;omega
 ·rw [iG];simp
theorem aoO (g:LG) (n:Int) (hl:g.2.2.2.1.length<=1000000) (hB:g.1.length<=900000):∃r,ou (g,n)=some r/\sZ (g,n)=some r /\
 ((¬VL g/\r=(zG,2))\/(VL g/\((∃i,i<g.2.2.2.1.length/\Rec n g.2.2.2.1 i/\r=gvR g n i)\/((∀i,i<g.2.2.2.1.length->¬Rec n g.2.2.2.1 i)/\r=(zG,8))))):=by
 rw [aot,al5];by_cases hv:VL g
 ·have h2:=hv.2.1;have hL:=nH (body:=gvB g n) g.2.2.2.1.length (fun i=>Rec n g.2.2.2.1 i) (fun i => .inr (.inl ((i:Nat):Int))) (.inl ()) (fun i hi hn=>by
   obtain ⟨x,hx,hxb⟩:=get_at b0 hi;have hnum:=hv.num hi;unfold Rec at hn;rw [hx] at hn hnum;unfold gvB;by_cases h0:x.2.2.2.2.2.2.1≠0
   ·have h1:¬x.2.2.2.2.2.2.1=n:=fun k=>hn ⟨by omega,k⟩;simp (disch:=(first | omega | (simp only [bM];omega))) only [↓aF,aG,if_pos,if_neg,↓hxb,aj];rfl
   ·simp (disch:=(first | omega | (simp only [bM];omega))) only [↓aF,aG,if_pos,if_neg,↓hxb,aj];rfl) (fun i hi hn=>by
   obtain ⟨x,hx,hxb⟩:=get_at b0 hi;unfold Rec at hn;rw [hx] at hn;unfold gvB;simp (disch:=(first | omega | (simp only [bM];omega))) only [↓aF,aG,if_pos,if_neg,↓hxb]) (by
   unfold gvB;simp (disch:=(first | omega | (simp only [bM];omega))) only [↓aF,aG,if_neg])
  have hR:=aoN g n hl;have hRb:∀ {β:Type} {v:Int} (f:Int->Option β),dN (g,n)=some v->ah (dN (g,n)) f=f v:=fun f e=>by rw [e];rfl
  rcases hL with ⟨i,k1,k2,k3,e⟩ | ⟨k,e⟩
  ·rcases hR with ⟨i',k1',k2',k3',e'⟩ | ⟨k',_⟩
   ·have hii:i'=i:=by
     rcases Nat.lt_trichotomy i' i with h | h | h
     ·exact (k3 _ h k2').elim
     ·exact h
     ·exact (k3' _ h k2).elim
    subst hii;have hnum:=hv.num k1;have hn:(g.2.2.2.1.getD i' b0).2.2.2.2.2.2.1=n:=k2.2;rw [hn] at hnum;have hd:=aqc (n:=n) ⟨hnum.1,hnum.2.1⟩;refine ⟨gvR g n i',?_,?_,.inr ⟨hv,.inl ⟨i',k1,k2,rfl⟩⟩⟩
    ·unfold gvR;obtain ⟨x,hx,hxb⟩:=get_at b0 k1;rw [hx];rw [Int.toNat_natCast] at hxb;cases hg:x.2.2.2.2.2.2.2.2.2 with
     | true =>
       rw [if_pos rfl];simp (disch:=(first | omega | (simp only [bM];omega))) only [↓aF,aG,↓(nK g hl).b,dM hv,↓e,if_pos,if_neg,Int.toNat_natCast,↓hxb,hg];rfl
     | false =>
       rw [if_neg (by simp)];by_cases hc:g.2.2.1>=1048576
       ·rw [if_pos hc];simp (disch:=(first | omega | (simp only [bM];omega))) only [↓aF,aG,↓(nK g hl).b,dM hv,↓e,if_pos,if_neg,Int.toNat_natCast,↓hxb,hg,↓qh hd.1,↓Xm hc];rfl
       ·rw [if_neg hc];have hlg:=hv.lg hB (by omega);simp (disch:=first | omega | (simp only [bM];omega)) only [↓aF,aG,↓(nK g hl).b,dM hv,↓e,if_pos,if_neg,Int.toNat_natCast,↓hxb,hg,↓qh hd.1,↓Xl hlg (show (0:Int)<=5/\(5:Int)<=255 by omega) (iQ _ _) hd.2,↓oH hl];rw [List.take_of_length_le (by simp)];rfl
    ·unfold gvR;obtain ⟨x,hx,hxb⟩:=get_at b0 k1;rw [hx];rw [Int.toNat_natCast] at hxb;cases hg:x.2.2.2.2.2.2.2.2.2 with
     | true =>
       rw [if_pos rfl];simp (disch:=(first | omega | (simp only [bM];omega))) only [↓aF,aG,↓(Rl g hl).b,dM hv,↓hRb _ e',if_pos,if_neg,Int.toNat_natCast,↓hxb,hg];rfl
     | false =>
       rw [if_neg (by simp)];by_cases hc:g.2.2.1>=1048576
       ·rw [if_pos hc];simp (disch:=(first | omega | (simp only [bM];omega))) only [↓aF,aG,↓(Rl g hl).b,dM hv,↓hRb _ e',if_pos,if_neg,Int.toNat_natCast,↓hxb,hg,↓ae0];rfl
       ·rw [if_neg hc];have hlg:=hv.lg hB (by omega);have hmx:dK g.2.2.2.2.2 0=g.2.2.2.2.2:=by unfold dK;rw [if_neg (by omega)]
        have he:jh (g,(5,(0,(n,(0,(0,([],([],[]))))))))  = some (atG g (g.2.2.2.1.set i' (U6 x)) g.2.2.2.2.1 0,true):=by
         rw [aoA];unfold atG;rw [hmx];simp (disch:=first | omega | (simp only [bM];omega)) only [↓aF,aG,decide_true,↓hRb _ e',if_pos,if_neg,Int.toNat_natCast,↓hxb,hg];rw [List.take_of_length_le (by simp)];rfl
        have hr:xE (5,(0,(n,(0,(0,([],([],[])))))))=some (5,lW [n] []):=by
         rw [aoC];simp (disch:=(first | omega | (simp only [bM];omega))) only [↓aF,aG,if_pos,if_neg,↓ahY hd.1]
        simp (disch:=(first | omega | (simp only [bM];omega))) only [↓aF,aG,↓(Rl g hl).b,dM hv,↓hRb _ e',if_pos,if_neg,Int.toNat_natCast,↓hxb,hg,↓ae0,↓amc he hr hlg (show (0:Int)<=5/\(5:Int)<=255 by omega) (iQ _ _) hd.2,hmx]
   ·exact (k' i k1 k2).elim
  ·rcases hR with ⟨i',k1',k2',_,_⟩ | ⟨_,e'⟩
   ·exact (k i' k1' k2').elim
   ·refine ⟨(zG,8),?_,?_,.inr ⟨hv,.inr ⟨k,rfl⟩⟩⟩
    ·simp (disch:=(first | omega | (simp only [bM];omega))) only [↓aF,aG,↓(nK g hl).b,dM hv,↓e,if_pos];rfl
    ·simp (disch:=(first | omega | (simp only [bM];omega))) only [↓aF,aG,↓(Rl g hl).b,dM hv,↓hRb _ e',if_pos];rfl
 ·refine ⟨(zG,2),?_,?_,.inl ⟨hv,rfl⟩⟩
  ·simp only [↓aF,aG,↓(nK g hl).b,jL hv];rfl
  ·simp only [↓aF,aG,↓(Rl g hl).b,jL hv];rfl
end Go.Proofs.Ytkpijdndakljjaa
