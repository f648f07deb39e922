import Derived.Test.YtkpijdndakljjaaZrp
import Derived.Test.YtkpijdndakljjaaFp
import Derived.Test.YtkpijdndakljjaaXBp
import Derived.Test.YtkpijdndakljjaaQ1p
import Derived.Test.YtkpijdndakljjaaJ9p
set_option linter.unusedSimpArgs false
set_option linter.unusedVariables false
noncomputable section
set_option maxRecDepth 1000000
set_option maxHeartbeats 0
namespace Go.Proofs.Ytkpijdndakljjaa
open Go.RowKit
def MS:List (Nat×PL):=[]
def wR:(Int×(LN×Bool))->Option (LN×(LN×Bool)):=fun (a1,(a2,a3)) =>
 bif a3 then
 some (([]:List Int),(a2,true))
 else
 bif (decide ((a2.length:Int)<a1)) then
 some (([]:List Int),(a2,true))
 else
 bif (decide ((0<=a1)/\(a1<=(a2.length:Int)))) then
 bif (decide ((0<=a1)/\(a1<=(a2.length:Int)))) then
 some ((List.take a1.toNat a2),((List.drop a1.toNat a2),a3))
 else none
 else none
def MV:List (Nat×CE):=[]
theorem EY:dZ Try.prog MV:=trivial
def yQ:CE:=⟨[.tmp 0 false [.pt 20000010 0],.tmp 1 false [.dat dH],.mix 20000010 [.dat (.list vP),.dat .bool]],[.tmp 0 false [dY],.mix 20000010 [dY,dO]],wR⟩
theorem Cc:aV Try.prog 123 yQ :=
 rH (oK (plan:=vF MS) (eg:=fC) KK qj (nI EY) Try.func123 (by kernel_rfl) (by kernel_rfl) 10000 (fun a r h=>Eq.trans (show _=wR a from by kernel_rfl) h)) (by rfl)
def Ja:List (Nat×PL):=[(134480385,(.carry [.tmp 3 false [(.dat (.int .u64))],.mix 20000010 [dY,dO]])),(18049651601311750,(.carry [.tmp 9 false [dI],.tmp 3 false [(.dat (.int .u64))]]))]
def qy:(LN×Bool)->Option (Int×(LN×Bool)):=fun (a1,a2) =>
 aA (ah (wR ((8:Int),(a1,a2))) fun (x4,(x5,x6)) =>
 ay (fun (v7,v8) =>
 bif (decide (v7<(x4.length:Int))) then
 bif (decide ((0<=v7)/\(v7<(x4.length:Int)))) then
 ah x4[v7.toNat]? fun x9 =>
 some (Sum.inl ((IntKind.wrap .i64 (v7+(1:Int))),(IntKind.wrap .u64 (((BitVec.toNat ((BitVec.ofInt 64 (IntKind.wrap .u64 (v8*(256:Int)))) ||| (BitVec.ofInt 64 (IntKind.wrap .u64 x9)))):Nat):Int))))
 else none
 else
 au (some (Sum.inl (v8,(x5,x6))))) ((0:Int),(0:Int))) fun (v14,(v15,v16)) =>
 some (v14,(v15,v16))
def Jb:List (Nat×CE):=[(123,yQ)]
theorem Du:dZ Try.prog Jb:=⟨Cc,trivial⟩
def Ce:CE:=⟨[.tmp 0 false [.pt 20000010 0],.mix 20000010 [.dat (.list vP),.dat .bool]],[.tmp 0 false [(.dat (.int .u64))],.mix 20000010 [dY,dO]],qy⟩
theorem MW:aV Try.prog 92 Ce :=
 rH (oK (plan:=vF Ja) (eg:=fC) KK qj (nI Du) Try.func92 (by kernel_rfl) (by kernel_rfl) 10000 (fun a r h=>Eq.trans (show _=qy a from by kernel_rfl) h)) (by rfl)
def N9:List (Nat×PL):=[(134480385,(.carry [.tmp 3 false [dI],.mix 20000010 [dY,dO]])),(18049651601311750,(.carry [.tmp 9 false [dI],.tmp 3 false [dI]]))]
def wS:(LN×Bool)->Option (LU×(LN×Bool)):=fun (a1,a2) =>
 aA (ah (wR ((2:Int),(a1,a2))) fun (x4,(x5,x6)) =>
 ay (fun (v7,v8) =>
 bif (decide (v7<(x4.length:Int))) then
 bif (decide ((0<=v7)/\(v7<(x4.length:Int)))) then
 ah x4[v7.toNat]? fun x9 =>
 some (Sum.inl ((IntKind.wrap .i64 (v7+(1:Int))),(IntKind.wrap .i64 (((BitVec.toNat ((BitVec.ofInt 64 (IntKind.wrap .i64 (v8*(256:Int)))) ||| (BitVec.ofInt 64 (IntKind.wrap .i64 x9)))):Nat):Int))))
 else none
 else
 au (some (Sum.inl (v8,(x5,x6))))) ((0:Int),(0:Int))) fun (v14,(v15,v16)) =>
 ah (wR (v14,(v15,v16))) fun (x18,(x19,x20)) =>
 some ((ni x18),(x19,x20))
def Oa:List (Nat×CE):=[(123,yQ)]
theorem GU:dZ Try.prog Oa:=⟨Cc,trivial⟩
def IU:CE:=⟨[.tmp 0 false [.pt 20000010 0],.mix 20000010 [.dat (.list vP),.dat .bool]],[.tmp 0 false [dS],.mix 20000010 [dY,dO]],wS⟩
theorem RJ:aV Try.prog 95 IU :=
 rH (oK (plan:=vF N9) (eg:=fC) KK qj (nI GU) Try.func95 (by kernel_rfl) (by kernel_rfl) 10000 (fun a r h=>Eq.trans (show _=wS a from by kernel_rfl) h)) (by rfl)
def MX:List (Nat×PL):=[]
def uh:(LN×Bool)->Option Bool:=fun (a1,a2) =>
 bif (!a2) then
 some (decide ((a1.length:Int)=0))
 else
 some false
def MZ:List (Nat×CE):=[]
theorem EZ:dZ Try.prog MZ:=trivial
def E8:CE:=⟨[.tmp 0 false [.pt 20000010 0],.mix 20000010 [.dat (.list vP),.dat .bool]],[.tmp 0 false [dO]],uh⟩
theorem Ob:aV Try.prog 93 E8 :=
 rH (oK (plan:=vF MX) (eg:=fC) KK qj (nI EZ) Try.func93 (by kernel_rfl) (by kernel_rfl) 10000 (fun a r h=>Eq.trans (show _=uh a from by kernel_rfl) h)) (by rfl)
def Oc:List (Nat×PL):=[]
def GV:(Int×((List iT)×((List iT)×(Int×Int))))->Option (Bool×(List iT)):=fun (a1,(a2,(a3,(a4,a5)))) =>
 bif (decide (a1<1)) then
 some (false,a3)
 else
 bif (decide (a1 > (IntKind.wrap .u64 (a3.length:Int)))) then
 some (false,a3)
 else
 ah (some (IntKind.wrap .u64 (a1-(1:Int)))) fun x7 =>
 bif (decide ((0<=x7)/\(x7<(a3.length:Int)))) then
 ah a3[x7.toNat]? fun x8 =>
 bif x8.2.2.2.2.2.2.2.2.2 then
 some (false,a3)
 else
 ah (some (IntKind.wrap .u64 (a1-(1:Int)))) fun x9 =>
 bif (decide ((0<=x9)/\(x9<(a3.length:Int)))) then
 ah a3[x9.toNat]? fun x10 =>
 some (true,(List.set a3 x9.toNat (x10.1,(x10.2.1,(x10.2.2.1,(x10.2.2.2.1,(x10.2.2.2.2.1,(x10.2.2.2.2.2.1,(x10.2.2.2.2.2.2.1,(x10.2.2.2.2.2.2.2.1,(x10.2.2.2.2.2.2.2.2.1,true)))))))))))
 else none
 else none
def Oe:List (Nat×CE):=[]
theorem GX:dZ Try.prog Oe:=trivial
def IV:CE:=⟨[.tmp 0 false [.pt 20000020 0],.tmp 1 false [.dat (.int .u64)],.mix 20000020 [.own 20000021 29 pV,.own 20000022 29 pV,.dat dH,.dat dH]],[.tmp 0 false [dO],.row 20000022 29 nZ],GV⟩
theorem RN:aV Try.prog 94 IV :=
 rH (oK (plan:=vF Oc) (eg:=fC) KK qj (nI GX) Try.func94 (by kernel_rfl) (by kernel_rfl) 10000 (fun a r h=>Eq.trans (show _=GV a from by kernel_rfl) h)) (by rfl)
def Na:List (Nat×PL):=[(134480385,(.carry []))]
def BH:(Int×(LU×(LU×(LU×((List iT)×((List iT)×(Int×Int)))))))->Option (Bool×((List iT)×((List iT)×(Int×Int)))):=fun (a1,(a2,(a3,(a4,(a5,(a6,(a7,a8))))))) =>
 bif (decide (a5.length<=a5.length)) then
 ah (jc ((a5.take a5.length),a2)) fun (x10,x11) =>
 aA (bif x11 then
 au (bif ((decide (a5.length<=a5.length))&&(decide (a6.length<=a6.length))) then
 some (false,((a5.take a5.length),((a6.take a6.length),(a7,a8))))
 else none)
 else
 bif (decide ((a5.length:Int)>=256)) then
 au (bif ((decide (a5.length<=a5.length))&&(decide (a6.length<=a6.length))) then
 some (false,((a5.take a5.length),((a6.take a6.length),(a7,a8))))
 else none)
 else
 ah (aZ ((a2.length:Int),((1:Int),(200:Int)))) fun x12 =>
 bif (!x12) then
 au (bif ((decide (a5.length<=a5.length))&&(decide (a6.length<=a6.length))) then
 some (false,((a5.take a5.length),((a6.take a6.length),(a7,a8))))
 else none)
 else
 bif (decide ((a3.length:Int) > 200)) then
 au (bif ((decide (a5.length<=a5.length))&&(decide (a6.length<=a6.length))) then
 some (false,((a5.take a5.length),((a6.take a6.length),(a7,a8))))
 else none)
 else
 bif (decide ((a4.length:Int) > 200)) then
 au (bif ((decide (a5.length<=a5.length))&&(decide (a6.length<=a6.length))) then
 some (false,((a5.take a5.length),((a6.take a6.length),(a7,a8))))
 else none)
 else
 some (Sum.inl ())) fun _ =>
 ah (oL (a1,(a2,(a3,a4)))) fun (x14,(x15,(x16,(x17,(x18,(x19,(x20,(x21,(x22,x23))))))))) =>
 bif ((decide (a5.length=a5.length))&&true) then
 ah (Q5 (a5,(x10,((x14,(x15,(x16,(x17,(x18,(x19,(x20,(x21,(x22,x23)))))))))::([]:List iT))))) fun x24 =>
 bif ((decide (x24.length<=x24.length))&&(decide (a6.length<=a6.length))) then
 some (true,((x24.take x24.length),((a6.take a6.length),(a7,a8))))
 else none
 else none
 else none
def Nb:List (Nat×CE):=[(1000000046,Md),(41,UW),(79,aeP),(48,alZ)]
theorem Fa:dZ Try.prog Nb:=⟨YL,Mc,Zj,ajz,trivial⟩
def Fb:CE:=⟨[.tmp 0 false [.pt 20000020 0],.tmp 1 false [.dat dH],.tmp 2 false [.dat .str],.tmp 3 false [.dat .str],.tmp 4 false [.dat .str],.mix 20000020 [.own 20000021 29 pV,.own 20000022 29 pV,.dat dH,.dat dH]],[.tmp 0 false [dO],.mix 20000020 [(.own 10000001 29 nZ),(.own 10000002 29 nZ),dI,dI],.dead 20000021,.dead 20000022],BH⟩
theorem Og:aV Try.prog 96 Fb :=
 rH (oK (plan:=vF Na) (eg:=fC) KK qj (nI Fa) Try.func96 (by kernel_rfl) (by kernel_rfl) 10000 (fun a r h=>Eq.trans (show _=BH a from by kernel_rfl) h)) (by rfl)
def Nc:List (Nat×PL):=[]
def BI:(Int×(Int×(LU×((List iT)×((List iT)×(Int×Int))))))->Option (Bool×(List iT)):=fun (a1,(a2,(a3,(a4,(a5,(a6,a7)))))) =>
 bif (decide (a4.length<=a4.length)) then
 ah (jc ((a4.take a4.length),a3)) fun (x9,x10) =>
 bif (!x10) then
 some (false,a4)
 else
 bif (decide ((0<=x9)/\(x9<(a4.length:Int)))) then
 ah a4[x9.toNat]? fun x11 =>
 bif (decide (a2<x11.2.2.2.2.2.1)) then
 some (false,a4)
 else
 bif (decide (a1=2)) then
 bif (decide ((0<=x9)/\(x9<(a4.length:Int)))) then
 ah a4[x9.toNat]? fun x12 =>
 bif (decide (x12.2.2.2.2.1≠(-1:Int))) then
 some (false,a4)
 else
 bif (decide ((0<=x9)/\(x9<(a4.length:Int)))) then
 ah a4[x9.toNat]? fun x13 =>
 bif (decide ((0<=x9)/\(x9<(a4.length:Int)))) then
 ah (List.set a4 x9.toNat (x13.1,(x13.2.1,(x13.2.2.1,(x13.2.2.2.1,(a2,(x13.2.2.2.2.2.1,(x13.2.2.2.2.2.2.1,(x13.2.2.2.2.2.2.2.1,(x13.2.2.2.2.2.2.2.2.1,x13.2.2.2.2.2.2.2.2.2))))))))))[x9.toNat]? fun x14 =>
 some (true,(List.set (List.set a4 x9.toNat (x13.1,(x13.2.1,(x13.2.2.1,(x13.2.2.2.1,(a2,(x13.2.2.2.2.2.1,(x13.2.2.2.2.2.2.1,(x13.2.2.2.2.2.2.2.1,(x13.2.2.2.2.2.2.2.2.1,x13.2.2.2.2.2.2.2.2.2)))))))))) x9.toNat (x14.1,(x14.2.1,(x14.2.2.1,(x14.2.2.2.1,(x14.2.2.2.2.1,(a2,(x14.2.2.2.2.2.2.1,(x14.2.2.2.2.2.2.2.1,(x14.2.2.2.2.2.2.2.2.1,x14.2.2.2.2.2.2.2.2.2)))))))))))
 else none
 else none
 else none
 else
 bif (decide ((0<=x9)/\(x9<(a4.length:Int)))) then
 ah a4[x9.toNat]? fun x15 =>
 some (true,(List.set a4 x9.toNat (x15.1,(x15.2.1,(x15.2.2.1,(x15.2.2.2.1,(x15.2.2.2.2.1,(a2,(x15.2.2.2.2.2.2.1,(x15.2.2.2.2.2.2.2.1,(x15.2.2.2.2.2.2.2.2.1,x15.2.2.2.2.2.2.2.2.2)))))))))))
 else none
 else none
 else none
def Nh:List (Nat×CE):=[(79,aeP)]
theorem Fe:dZ Try.prog Nh:=⟨Zj,trivial⟩
def Fg:CE:=⟨[.tmp 0 false [.pt 20000020 0],.tmp 1 false [.dat vP],.tmp 2 false [.dat dH],.tmp 3 false [.dat .str],.mix 20000020 [.own 20000021 29 pV,.own 20000022 29 pV,.dat dH,.dat dH]],[.tmp 0 false [dO],.row 20000021 29 nZ],BI⟩
theorem Oh:aV Try.prog 97 Fg :=
 rH (oK (plan:=vF Nc) (eg:=fC) KK qj (nI Fe) Try.func97 (by kernel_rfl) (by kernel_rfl) 10000 (fun a r h=>Eq.trans (show _=BI a from by kernel_rfl) h)) (by rfl)
def RP:List (Nat×PL):=[(4731607904558101300225,(.carry [])),(18049651735527937,(.carry []))]
def P6:(Int×(Int×(Int×(Int×(LU×((List iT)×((List iT)×(Int×Int))))))))->Option (Bool×((List iT)×((List iT)×(Int×Int)))):=fun (a1,(a2,(a3,(a4,(a5,(a6,(a7,(a8,a9)))))))) =>
 bif (decide (a6.length<=a6.length)) then
 ah (jc ((a6.take a6.length),a5)) fun (x11,x12) =>
 bif (!x12) then
 bif ((decide (a6.length<=a6.length))&&(decide (a7.length<=a7.length))) then
 some (false,((a6.take a6.length),((a7.take a7.length),(a8,a9))))
 else none
 else
 bif (decide ((0<=x11)/\(x11<(a6.length:Int)))) then
 ah a6[x11.toNat]? fun x13 =>
 bif (decide (a1<x13.2.2.2.2.2.1)) then
 bif ((decide (a6.length<=a6.length))&&(decide (a7.length<=a7.length))) then
 some (false,((a6.take a6.length),((a7.take a7.length),(a8,a9))))
 else none
 else
 bif (decide ((0<=x11)/\(x11<(a6.length:Int)))) then
 ah a6[x11.toNat]? fun x14 =>
 bif (decide (a2=0)) then
 aA (bif (decide (a3≠0)) then
 au (bif ((decide (a6.length<=a6.length))&&(decide (a7.length<=a7.length))) then
 some (false,((a6.take a6.length),((a7.take a7.length),(a8,a9))))
 else none)
 else
 bif (decide (a4≠0)) then
 au (bif ((decide (a6.length<=a6.length))&&(decide (a7.length<=a7.length))) then
 some (false,((a6.take a6.length),((a7.take a7.length),(a8,a9))))
 else none)
 else
 bif (decide (x14.2.2.2.2.1≠(-1:Int))) then
 au (bif ((decide (a6.length<=a6.length))&&(decide (a7.length<=a7.length))) then
 some (false,((a6.take a6.length),((a7.take a7.length),(a8,a9))))
 else none)
 else
 some (Sum.inl ())) fun _ =>
 bif (decide (a6.length=a6.length)) then
 ah (N7 (a6,(x11,(IntKind.wrap .i64 (x11+(1:Int)))))) fun x16 =>
 bif ((decide (x16.length<=x16.length))&&(decide (a7.length<=a7.length))) then
 some (true,((x16.take x16.length),((a7.take a7.length),(a8,a9))))
 else none
 else none
 else
 aA (bif (decide (x14.2.2.2.2.1=(-1:Int))) then
 au (bif ((decide (a6.length<=a6.length))&&(decide (a7.length<=a7.length))) then
 some (false,((a6.take a6.length),((a7.take a7.length),(a8,a9))))
 else none)
 else
 bif (decide (a2≠(IntKind.wrap .u64 (IntKind.wrap .i64 (a8+(1:Int)))))) then
 au (bif ((decide (a6.length<=a6.length))&&(decide (a7.length<=a7.length))) then
 some (false,((a6.take a6.length),((a7.take a7.length),(a8,a9))))
 else none)
 else
 bif (decide (a2 > 1048576)) then
 au (bif ((decide (a6.length<=a6.length))&&(decide (a7.length<=a7.length))) then
 some (false,((a6.take a6.length),((a7.take a7.length),(a8,a9))))
 else none)
 else
 some (Sum.inl ())) fun _ =>
 ah (bW (x14.2.2.2.2.1,a1)) fun x19 =>
 bif (decide (a3≠(IntKind.wrap .u64 x19))) then
 bif ((decide (a6.length<=a6.length))&&(decide (a7.length<=a7.length))) then
 some (false,((a6.take a6.length),((a7.take a7.length),(a8,a9))))
 else none
 else
 bif (decide ((IntKind.wrap .i64 a4)<0)) then
 bif ((decide (a6.length<=a6.length))&&(decide (a7.length<=a7.length))) then
 some (false,((a6.take a6.length),((a7.take a7.length),(a8,a9))))
 else none
 else
 ah (some (IntKind.wrap .i64 (a8+(1:Int)))) fun x22 =>
 bif (decide (a6.length=a6.length)) then
 ah (N7 (a6,(x11,(IntKind.wrap .i64 (x11+(1:Int)))))) fun x24 =>
 bif (decide (a7.length<=a7.length)) then
 bif (decide (((List.length ((a7.take a7.length)++((x14.1,(x14.2.1,(x14.2.2.1,(x14.2.2.2.1,(x14.2.2.2.2.1,(a1,(x22,(x19,((IntKind.wrap .i64 a4),x14.2.2.2.2.2.2.2.2.2)))))))))::([]:List iT))))*104)<=140737488355328)) then
 ah (some ((a7.take a7.length)++((x14.1,(x14.2.1,(x14.2.2.1,(x14.2.2.2.1,(x14.2.2.2.2.1,(a1,(x22,(x19,((IntKind.wrap .i64 a4),x14.2.2.2.2.2.2.2.2.2)))))))))::([]:List iT)))) fun x25 =>
 bif ((decide (x24.length<=x24.length))&&(decide (x25.length<=x25.length))) then
 some (true,((x24.take x24.length),((x25.take x25.length),(x22,a9))))
 else none
 else none
 else none
 else none
 else none
 else none
 else none
def RQ:List (Nat×CE):=[(76,alL),(1000000088,Me),(79,aeP)]
theorem Jc:dZ Try.prog RQ:=⟨UH,YM,Zj,trivial⟩
def Nj:CE:=⟨[.tmp 0 false [.pt 20000020 0],.tmp 1 false [.dat dH],.tmp 2 false [.dat (.int .u64)],.tmp 3 false [.dat (.int .u64)],.tmp 4 false [.dat (.int .u64)],.tmp 5 false [.dat .str],.mix 20000020 [.own 20000021 29 pV,.own 20000022 29 pV,.dat dH,.dat dH]],[.tmp 0 false [dO],.mix 20000020 [(.own 10000001 29 nZ),(.own 10000002 29 nZ),dI,dI],.dead 20000022,.dead 20000021],P6⟩
theorem Va:aV Try.prog 98 Nj :=
 rH (oK (plan:=vF RP) (eg:=fC) KK qj (nI Jc) Try.func98 (by kernel_rfl) (by kernel_rfl) 10000 (fun a r h=>Eq.trans (show _=P6 a from by kernel_rfl) h)) (by rfl)
def Nk:List (Nat×PL):=[(4731607904558235517441,(.carry [.tmp 8 false [dO],.mix 5 [dY,dO],.mix 20000020 [(.own 10000001 29 nZ),(.own 10000002 29 nZ),dI,dI],.dead 20000021,.dead 20000022])),(166478653092435647486938694421841409,(.carry [.tmp 63 false [dO]]))]
def BJ:((Int×LN)×((List iT)×((List iT)×(Int×Int))))->Option (Bool×((List iT)×((List iT)×(Int×Int)))):=fun ((a1,a2),(a3,(a4,(a5,a6)))) =>
 ah (qy (a2,false)) fun (x8,(x9,x10)) =>
 bif (decide (a1=5)) then
 ah (uh (x9,x10)) fun x11 =>
 bif x11 then
 bif ((decide (a3.length=a3.length))&&(decide (a4.length=a4.length))) then
 ah (GV (x8,(a3,(a4,(a5,a6))))) fun (x13,x14) =>
 bif ((decide (a3.length<=a3.length))&&(decide (a4.length<=x14.length))) then
 some (x13,((a3.take a3.length),((List.take a4.length x14),(a5,a6))))
 else none
 else none
 else
 bif ((decide (a3.length<=a3.length))&&(decide (a4.length<=a4.length))) then
 some (false,((a3.take a3.length),((a4.take a4.length),(a5,a6))))
 else none
 else
 bif x10 then
 bif ((decide (a3.length<=a3.length))&&(decide (a4.length<=a4.length))) then
 some (false,((a3.take a3.length),((a4.take a4.length),(a5,a6))))
 else none
 else
 bif (decide (x8 > 1099511627776)) then
 bif ((decide (a3.length<=a3.length))&&(decide (a4.length<=a4.length))) then
 some (false,((a3.take a3.length),((a4.take a4.length),(a5,a6))))
 else none
 else
 aA (bif (decide (a1=1)) then
 ah (wS (x9,x10)) fun (x17,(x18,x19)) =>
 ah (wS (x18,x19)) fun (x21,(x22,x23)) =>
 ah (wS (x22,x23)) fun (x25,(x26,x27)) =>
 ah (uh (x26,x27)) fun x28 =>
 bif x28 then
 bif ((decide (a3.length=a3.length))&&(decide (a4.length=a4.length))) then
 ah (BH ((IntKind.wrap .i64 x8),(x17,(x21,(x25,(a3,(a4,(a5,a6)))))))) fun (x30,(x31,(x32,(x33,x34)))) =>
 bif ((decide (x31.length<=x31.length))&&(decide (x32.length<=x32.length))) then
 some (Sum.inl (x30,((x26,x27),((x31.take x31.length),((x32.take x32.length),(x33,x34))))))
 else none
 else none
 else
 bif ((decide (a3.length<=a3.length))&&(decide (a4.length<=a4.length))) then
 some (Sum.inl (false,((x26,x27),((a3.take a3.length),((a4.take a4.length),(a5,a6))))))
 else none
 else
 aA (bif (decide (a1=2)) then
 some (Sum.inl true)
 else
 some (Sum.inl (decide (a1=3)))) fun v35 =>
 bif v35 then
 ah (wS (x9,x10)) fun (x37,(x38,x39)) =>
 ah (uh (x38,x39)) fun x40 =>
 bif x40 then
 bif ((decide (a3.length=a3.length))&&(decide (a4.length=a4.length))) then
 ah (BI (a1,((IntKind.wrap .i64 x8),(x37,(a3,(a4,(a5,a6))))))) fun (x42,x43) =>
 bif ((decide (a3.length<=x43.length))&&(decide (a4.length<=a4.length))) then
 some (Sum.inl (x42,((x38,x39),((List.take a3.length x43),((a4.take a4.length),(a5,a6))))))
 else none
 else none
 else
 bif ((decide (a3.length<=a3.length))&&(decide (a4.length<=a4.length))) then
 some (Sum.inl (false,((x38,x39),((a3.take a3.length),((a4.take a4.length),(a5,a6))))))
 else none
 else
 bif (decide (a1=4)) then
 ah (qy (x9,x10)) fun (x45,(x46,x47)) =>
 ah (qy (x46,x47)) fun (x49,(x50,x51)) =>
 ah (qy (x50,x51)) fun (x53,(x54,x55)) =>
 ah (wS (x54,x55)) fun (x57,(x58,x59)) =>
 ah (uh (x58,x59)) fun x60 =>
 bif x60 then
 bif ((decide (a3.length=a3.length))&&(decide (a4.length=a4.length))) then
 ah (P6 ((IntKind.wrap .i64 x8),(x45,(x49,(x53,(x57,(a3,(a4,(a5,a6))))))))) fun (x62,(x63,(x64,(x65,x66)))) =>
 bif ((decide (x63.length<=x63.length))&&(decide (x64.length<=x64.length))) then
 some (Sum.inl (x62,((x58,x59),((x63.take x63.length),((x64.take x64.length),(x65,x66))))))
 else none
 else none
 else
 bif ((decide (a3.length<=a3.length))&&(decide (a4.length<=a4.length))) then
 some (Sum.inl (false,((x58,x59),((a3.take a3.length),((a4.take a4.length),(a5,a6))))))
 else none
 else
 bif ((decide (a3.length<=a3.length))&&(decide (a4.length<=a4.length))) then
 some (Sum.inl (false,((x9,x10),((a3.take a3.length),((a4.take a4.length),(a5,a6))))))
 else none) fun (v67,((v68,v69),(v70,(v71,(v72,v73))))) =>
 bif v67 then
 bif ((decide (v70.length<=v70.length))&&(decide (v71.length<=v71.length))) then
 some (v67,((v70.take v70.length),((v71.take v71.length),(v72,(dM v73 (IntKind.wrap .i64 x8))))))
 else none
 else
 bif ((decide (v70.length<=v70.length))&&(decide (v71.length<=v71.length))) then
 some (v67,((v70.take v70.length),((v71.take v71.length),(v72,v73))))
 else none
def Nl:List (Nat×CE):=[(92,Ce),(95,IU),(93,E8),(94,IV),(96,Fb),(97,Fg),(98,Nj)]
theorem Fh:dZ Try.prog Nl:=⟨MW,RJ,Ob,RN,Og,Oh,Va,trivial⟩
def Fj:CE:=⟨[.tmp 0 false [.pt 20000020 0],.tmp 1 true [.dat vP,.dat (.list vP)],.mix 20000020 [.own 20000021 29 pV,.own 20000022 29 pV,.dat dH,.dat dH]],[.tmp 0 false [dO],.mix 20000020 [(.own 10000003 29 nZ),(.own 10000004 29 nZ),dI,dI],.dead 20000021,.dead 20000022],BJ⟩
theorem Oi:aV Try.prog 71 Fj :=
 rH (oK (plan:=vF Nk) (eg:=fC) KK qj (nI Fh) Try.func71 (by kernel_rfl) (by kernel_rfl) 10000 (fun a r h=>Eq.trans (show _=BJ a from by kernel_rfl) h)) (by rfl)
def amO:List (Nat×PL):=[(35253226045953,(.carry [.mix 20 [(.own 10000003 29 nZ),(.own 10000004 29 nZ),dI,dI]])),(4731607904558101301254,(.carry [.tmp 34 false [dI],.mix 20 [(.own 10000001 29 nZ),(.own 10000002 29 nZ),dI,dI]])),(4731607904558235516954,(.carry [.tmp 0 false [(.own 10000005 29 nZ)]])),(635065662736647214774471623169,(.carry [.tmp 3 false [dI]])),(85237070383327051504557613662081386502,(.carry [.tmp 11 false [dI],.tmp 3 false [dI]])),(166478653092435647469839089184014849,(.carry [.tmp 6 false [(.own 10000007 29 nZ)],.dead 52])),(22344386578566886589610751075867846817089542,(.carry [.tmp 27 false [dI],.tmp 6 false [(.own 10000006 29 nZ)],.dead 52])),(4731607904558235517441,(.carry [.mix 45 [dY,dI,dI,(.dat (.list nZ)),dI,dI],.dead 10000005])),(635065662736647214839701440518,(.carry [.tmp 73 false [dI],.mix 45 [dY,dI,dI,(.dat (.list nZ)),dI,dI],.dead 10000005]))]
def lY:(LN×(((List (LU×(Int×(Int×(Int×(List ((Int×(Int×Int))×(Int×Int))))))))×Int)×Int))->Option ((zl)×Int):=fun (a1,((a2,a3),a4)) =>
 ah (aW (a2,a3)) fun x5 =>
 bif (!x5) then
 some ((([]:List Int),((0:Int),((0:Int),(([]:List iT),((0:Int),(0:Int)))))),(2:Int))
 else
 ah (aZ (a4,((0:Int),(1099511627776:Int)))) fun x6 =>
 bif (!x6) then
 some ((([]:List Int),((0:Int),((0:Int),(([]:List iT),((0:Int),(0:Int)))))),(2:Int))
 else
 ah (kD a1) fun ((x8,(x9,x10)),x11) =>
 aA (ay (fun (v12,(v13,(v14,(v15,v16)))) =>
 bif (decide (v12<(x11.length:Int))) then
 bif (decide ((0<=v12)/\(v12<(x11.length:Int)))) then
 ah x11[v12.toNat]? fun x17 =>
 bif ((decide (v13.length=v13.length))&&(decide (v14.length=v14.length))) then
 ah (BJ ((x17.1,x17.2),(v13,(v14,(v15,v16))))) fun (x19,(x20,(x21,(x22,x23)))) =>
 bif (!x19) then
 au (au (some ((([]:List Int),((0:Int),((0:Int),(([]:List iT),((0:Int),(0:Int)))))),(5:Int))))
 else
 bif ((decide (x20.length<=x20.length))&&(decide (x21.length<=x21.length))) then
 some (Sum.inl ((IntKind.wrap .i64 (v12+(1:Int))),((x20.take x20.length),((x21.take x21.length),(x22,x23)))))
 else none
 else none
 else none
 else
 au (bif ((decide (v13.length<=v13.length))&&(decide (v14.length<=v14.length))) then
 some (Sum.inl ((v13.take v13.length),((v14.take v14.length),(v15,v16))))
 else none)) ((0:Int),(([]:List iT),(([]:List iT),((0:Int),(0:Int)))))) fun (v25,(v26,(v27,v28))) =>
 bif (decide (a4<v28)) then
 some ((([]:List Int),((0:Int),((0:Int),(([]:List iT),((0:Int),(0:Int)))))),(9:Int))
 else
 bif ((decide (v25.length<=v25.length))&&(decide (v26.length<=v26.length))) then
 aA (aA (ay (fun (v29,v30) =>
 bif (decide (v29<2)) then
 bif (decide ((0<=v29)/\(v29<2))) then
 ah ((v25.take v25.length)::((v26.take v26.length)::([]:List (List iT))))[v29.toNat]? fun x31 =>
 ah (some (IntKind.wrap .i64 (v30+(x31.length:Int)))) fun x32 =>
 bif (decide (x32<0)) then
 none
 else
 some (Sum.inl ((IntKind.wrap .i64 (v29+(1:Int))),x32))
 else none
 else
 au (some (Sum.inl v30))) ((0:Int),(0:Int))) fun v34 =>
 ah (Iw v34) fun x35 =>
 aA (bif (decide (x35.length<=x35.length)) then
 ay (fun (v36,v37) =>
 bif (decide (v36<2)) then
 bif (decide ((0<=v36)/\(v36<2))) then
 ah ((v25.take v25.length)::((v26.take v26.length)::([]:List (List iT))))[v36.toNat]? fun x38 =>
 bif (decide (v37.length<=v37.length)) then
 bif (decide (((List.length ((v37.take v37.length)++x38))*104)<=140737488355328)) then
 ah (some ((v37.take v37.length)++x38)) fun x39 =>
 bif (decide (x39.length<=x39.length)) then
 some (Sum.inl ((IntKind.wrap .i64 (v36+(1:Int))),(x39.take x39.length)))
 else none
 else none
 else none
 else none
 else
 au (bif (decide (v37.length<=v37.length)) then
 some (Sum.inl (v37.take v37.length))
 else none)) ((0:Int),(x35.take x35.length))
 else none) fun v41 =>
 bif (decide (v41.length<=v41.length)) then
 some (Sum.inl (v41.take v41.length))
 else none) fun v42 =>
 aA (bif (decide (v42.length<=v42.length)) then
 ay (fun (v43,(v44,(v45,(v46,(v47,(v48,v49)))))) =>
 bif (decide (v43<(v25.length:Int))) then
 bif (decide (((0:Int)<=0)/\(0<(v47.length:Int)))) then
 ah v47[0]? fun x50 =>
 ah (ji ((v44,(v45,(v46,(v47,(v48,v49))))),((a2,a3),((0:Int),x50.2.2.2.2.2.1)))) fun ((x52,(x53,(x54,(x55,(x56,x57))))),x58) =>
 bif (decide (x58≠0)) then
 au (au (some ((([]:List Int),((0:Int),((0:Int),(([]:List iT),((0:Int),(0:Int)))))),x58)))
 else
 some (Sum.inl ((IntKind.wrap .i64 (v43+(1:Int))),(x52,(x53,(x54,(x55,(x56,x57)))))))
 else none
 else
 au (some (Sum.inl (v44,(v45,(v46,(v47,(v48,v49)))))))) ((0:Int),(x8,(x9,(x10,((v42.take v42.length),(v27,a4))))))
 else none) fun (v60,(v61,(v62,(v63,(v64,v65))))) =>
 some ((v60,(v61,(v62,(v63,(v64,v65))))),(0:Int))
 else none
def apn:CE:=⟨[(.tmp 0 false [dY])],[(.tmp 0 true [dY,dI,dI]),(.tmp 1 false [(.dat (.list (.pair vP (.list vP))))])],kD⟩
def Vb:CE:=⟨[.tmp 0 false [.nil],.tmp 1 false [.dat dH]],[.tmp 0 false [.own 20000003 29 pV]],Iw⟩
def amP:List (Nat×CE):=[(61,aoJ),(70,apn),(99,Vb),(41,UW),(62,amd),(71,Fj)]
theorem abX:dZ Try.prog amP:=⟨Y0,alq,aem,Mc,ajD,Oi,trivial⟩
def apo:CE:=⟨[(.tmp 0 false [dY]),(.tmp 1 true [(.dat (.list (.pair .str (.pair dH (.pair dH (.pair dH (.list (.pair (.pair vP (.pair dH dH)) (.pair dH dH))))))))),dI]),(.tmp 2 false [dI])],[(.tmp 0 true [dY,dI,dI,(.dat (.list nZ)),dI,dI]),(.tmp 1 false [Gv])],lY⟩
theorem apq:aV Try.prog 29 apo :=nT amO fC abX Try.func29
set_option maxRecDepth 100000
def cnB {δ:Type} (x4 x5:List Int) (x6:Bool):(Int×Int)->Option ((Int×Int) ⊕ ((Int×(List Int×Bool)) ⊕ δ)) :=
 (fun (v7,v8) =>
 bif (decide (v7<(x4.length:Int))) then
 bif (decide ((0<=v7)/\(v7<(x4.length:Int)))) then
 ah x4[v7.toNat]? fun x9 =>
 some (Sum.inl ((IntKind.wrap .i64 (v7+(1:Int))),(IntKind.wrap .u64 (((BitVec.toNat ((BitVec.ofInt 64 (IntKind.wrap .u64 (v8*(256:Int)))) ||| (BitVec.ofInt 64 (IntKind.wrap .u64 x9)))):Nat):Int))))
 else none
 else
 au (some (Sum.inl (v8,(x5,x6)))))
theorem Vd (a1:List Int) (a2:Bool):qy (a1,a2) =
 aA (ah (wR ((8:Int),(a1,a2))) fun (x4,(x5,x6)) =>
 ay (cnB x4 x5 x6) ((0:Int),(0:Int))) fun (v14,(v15,v16)) =>
 some (v14,(v15,v16)):=rfl
def cxB {δ:Type} (x4 x5:List Int) (x6:Bool):(Int×Int)->Option ((Int×Int) ⊕ ((Int×(List Int×Bool)) ⊕ δ)) :=
 (fun (v7,v8) =>
 bif (decide (v7<(x4.length:Int))) then
 bif (decide ((0<=v7)/\(v7<(x4.length:Int)))) then
 ah x4[v7.toNat]? fun x9 =>
 some (Sum.inl ((IntKind.wrap .i64 (v7+(1:Int))),(IntKind.wrap .i64 (((BitVec.toNat ((BitVec.ofInt 64 (IntKind.wrap .i64 (v8*(256:Int)))) ||| (BitVec.ofInt 64 (IntKind.wrap .i64 x9)))):Nat):Int))))
 else none
 else
 au (some (Sum.inl (v8,(x5,x6)))))
theorem abY (a1:List Int) (a2:Bool):wS (a1,a2) =
 aA (ah (wR ((2:Int),(a1,a2))) fun (x4,(x5,x6)) =>
 ay (cxB x4 x5 x6) ((0:Int),(0:Int))) fun (v14,(v15,v16)) =>
 ah (wR (v14,(v15,v16))) fun (x18,(x19,x20)) =>
 some ((ni x18),(x19,x20)):=rfl
def val (l:List Int):Int:=l.foldl (fun a x=>a*256+x) 0
theorem Np (l:List Int) (x:Int):val (l++[x])=val l*256+x:=by unfold val;rw [List.foldl_append];rfl
theorem Js {l:List Int} (h:Bytes l):0<=val l/\val l<256 ^ l.length:=by
 induction hn:l.length generalizing l with
 | zero =>
   rw [List.length_eq_zero_iff.1 hn];exact ⟨Int.le_refl 0,by decide⟩
 | succ n ih =>
   rcases List.eq_nil_or_concat l with e | ⟨l',c,e⟩
   ·rw [e] at hn;cases hn
   ·rw [List.concat_eq_append] at e;subst e;have hl':l'.length=n:=by simpa using hn
    have h1:=ih (fun x hx=>h x (List.mem_append_left _ hx)) hl';have h2:=h c (by simp);rw [Np,Int.pow_succ];omega
theorem amQ {x y:Int} (hx:0<=x/\x*256+255<18446744073709551616) (hy:0<=y/\y<=255):IntKind.wrap .u64 (((BitVec.toNat ((BitVec.ofInt 64 (IntKind.wrap .u64 (x*(256:Int)))) ||| (BitVec.ofInt 64 (IntKind.wrap .u64 y)))):Nat):Int)=x*256+y:=by
 obtain ⟨a,rfl⟩:=Int.eq_ofNat_of_zero_le hx.1;obtain ⟨b,rfl⟩:=Int.eq_ofNat_of_zero_le hy.1;rw [Dq,Dq,Dq,Int.emod_eq_of_lt (a:=(b:Int)) (by omega) (by omega),Int.emod_eq_of_lt (a:=(a:Int)*256) (by omega) (by omega)];rw [BitVec.toNat_or,show ((a:Int)*256)=((a*256:Nat):Int) from by omega,BitVec.ofInt_natCast,BitVec.ofInt_natCast,BitVec.toNat_ofNat,BitVec.toNat_ofNat,Nat.mod_eq_of_lt (by omega),Nat.mod_eq_of_lt (by omega)];have:=Nat.shiftLeft_add_eq_or_of_lt (i:=8) (b:=b) (by omega) a;rw [Nat.shiftLeft_eq] at this;rw [<-this];omega
theorem amR {x y:Int} (hx:0<=x/\x*256+255<9223372036854775808) (hy:0<=y/\y<=255):IntKind.wrap .i64 (((BitVec.toNat ((BitVec.ofInt 64 (IntKind.wrap .i64 (x*(256:Int)))) ||| (BitVec.ofInt 64 (IntKind.wrap .i64 y)))):Nat):Int)=x*256+y:=by
 obtain ⟨a,rfl⟩:=Int.eq_ofNat_of_zero_le hx.1;obtain ⟨b,rfl⟩:=Int.eq_ofNat_of_zero_le hy.1;rw [aj (n:=(a:Int)*256) (by omega),aj (n:=(b:Int)) (by omega)];rw [BitVec.toNat_or,show ((a:Int)*256)=((a*256:Nat):Int) from by omega,BitVec.ofInt_natCast,BitVec.ofInt_natCast,BitVec.toNat_ofNat,BitVec.toNat_ofNat,Nat.mod_eq_of_lt (by omega),Nat.mod_eq_of_lt (by omega)];have:=Nat.shiftLeft_add_eq_or_of_lt (i:=8) (b:=b) (by omega) a;rw [Nat.shiftLeft_eq] at this;rw [<-this,aj (by omega)];omega
theorem aix {δ:Type} (L R:List Int) (E:Bool) (hL:Bytes L) (hl:L.length<=8):ay (cnB (δ:=δ) L R E) (0,0)=some (.inl (val L,(R,E))):=by
 refine bG (fun i=>((i:Int),val (L.take i))) L.length rfl (fun i hi => ?_) ?_
 ·obtain ⟨x,hx,hxb⟩:=get_at (0:Int) hi;have ht:=take_snoc L 0 hi;rw [hx] at ht;have hb:Bytes (L.take i):=fun y hy=>hL y (List.mem_of_mem_take hy);have hx8:0<=x/\x<=255:=by rw [<-hx];exact hL.getD i
  have hr:=Js hb;have hlt:(L.take i).length<=8-1:=by rw [List.length_take];omega
  have hp:(256:Int) ^ (L.take i).length<=256 ^ (8-1):=by
   have:=Nat.pow_le_pow_right (show 0<256 by decide) hlt
   exact_mod_cast this
  have h7:(256:Int) ^ (8-1)*256<=18446744073709551616:=by decide
  have h8:(256:Int) ^ (8-1)<=72057594037927936:=by decide
  have hv:val (L.take (i+1))=val (L.take i)*256+x:=by rw [ht,Np]
  simp only [hv];generalize hV:val (L.take i)=V at hr ⊢;have ho:=amQ (x:=V) (y:=x) ⟨by omega,by have h9:(256:Int) ^ (8-1)*256<=18446744073709551616:=(by decide);omega⟩ hx8;unfold cnB;simp (disch:=(first | omega | (simp only [bJ];omega))) only [↓aF,aG,if_pos,if_neg,↓hxb,aj,↓ho];rfl
 ·unfold cnB;simp (disch:=(first | omega | (simp only [bJ];omega))) only [↓aF,aG,if_neg,List.take_length]
theorem aiy {δ:Type} (L R:List Int) (E:Bool) (hL:Bytes L) (hl:L.length<=2):ay (cxB (δ:=δ) L R E) (0,0)=some (.inl (val L,(R,E))):=by
 refine bG (fun i=>((i:Int),val (L.take i))) L.length rfl (fun i hi => ?_) ?_
 ·obtain ⟨x,hx,hxb⟩:=get_at (0:Int) hi;have ht:=take_snoc L 0 hi;rw [hx] at ht;have hb:Bytes (L.take i):=fun y hy=>hL y (List.mem_of_mem_take hy);have hx8:0<=x/\x<=255:=by rw [<-hx];exact hL.getD i
  have hr:=Js hb;have hlt:(L.take i).length<=2-1:=by rw [List.length_take];omega
  have hp:(256:Int) ^ (L.take i).length<=256 ^ (2-1):=by
   have:=Nat.pow_le_pow_right (show 0<256 by decide) hlt
   exact_mod_cast this
  have h7:(256:Int) ^ (2-1)*256<=18446744073709551616:=by decide
  have h8:(256:Int) ^ (2-1)<=72057594037927936:=by decide
  have hv:val (L.take (i+1))=val (L.take i)*256+x:=by rw [ht,Np]
  simp only [hv];generalize hV:val (L.take i)=V at hr ⊢;have ho:=amR (x:=V) (y:=x) ⟨by omega,by have h9:(256:Int) ^ (2-1)*256<=9223372036854775808:=(by decide);omega⟩ hx8;unfold cxB;simp (disch:=(first | omega | (simp only [bJ];omega))) only [↓aF,aG,if_pos,if_neg,↓hxb,aj,↓ho];rfl
 ·unfold cxB;simp (disch:=(first | omega | (simp only [bJ];omega))) only [↓aF,aG,if_neg,List.take_length]
def Nq (n:Nat) (r:List Int) (s:Bool):List Int×(List Int×Bool):=if s=true\/r.length<n then ([],(r,true)) else (r.take n,(r.drop n,false))
theorem XA (n:Nat) (r:List Int) (s:Bool):wR ((n:Int),(r,s))=some (Nq n r s):=by
 unfold wR Nq;cases s
 ·by_cases h:r.length<n
  ·rw [if_pos (.inr h)];simp (disch:=(first | omega | (simp only [bJ];omega))) only [↓aF,aG,if_pos]
  ·rw [if_neg (by rintro (h0 | h0);exact absurd h0 (by simp);exact h h0)];simp (disch:=(first | omega | (simp only [bJ];omega))) only [↓aF,aG,if_pos,if_neg,Int.toNat_natCast]
 ·rw [if_pos (.inl rfl)];rfl
def rdN (r:List Int) (s:Bool):Int×(List Int×Bool):=(val (Nq 8 r s).1,(Nq 8 r s).2)
def rdT (r:List Int) (s:Bool):Tx×(List Int×Bool):=(ni (Nq (val (Nq 2 r s).1).toNat (Nq 2 r s).2.1 (Nq 2 r s).2.2).1,(Nq (val (Nq 2 r s).1).toNat (Nq 2 r s).2.1 (Nq 2 r s).2.2).2)
theorem qX {n:Nat} {r:List Int} {s:Bool} (h:Bytes r):Bytes (Nq n r s).1/\Bytes (Nq n r s).2.1/\(Nq n r s).1.length<=n:=by
 unfold Nq;by_cases h0:s=true\/r.length<n
 ·rw [if_pos h0];exact ⟨fun x (hx:x∈([]:List Int))=>(by cases hx),h,Nat.zero_le _⟩
 ·rw [if_neg h0];exact ⟨fun x hx=>h x (List.mem_of_mem_take hx),fun x hx=>h x (List.mem_of_mem_drop hx),by show (r.take n).length<=n;rw [List.length_take];omega⟩
theorem apr (r:List Int) (s:Bool) (h:Bytes r):qy (r,s)=some (rdN r s):=by
 rw [Vd];have e:=XA 8 r s;obtain ⟨h1,h2,h3⟩:=qX (n:=8) (s:=s) h;rw [show ((8:Nat):Int)=(8:Int) from rfl] at e;rw [e];unfold rdN;generalize Nq 8 r s=t at *
 obtain ⟨t1,t2,t3⟩:=t;replace h1:Bytes t1:=h1;replace h3:t1.length<=_:=h3;simp only [↓aF,aG,aix t1 t2 t3 h1 h3]
theorem aps (r:List Int) (s:Bool) (h:Bytes r):wS (r,s)=some (rdT r s):=by
 rw [abY];have e:=XA 2 r s;obtain ⟨h1,h2,h3⟩:=qX (n:=2) (s:=s) h;rw [show ((2:Nat):Int)=(2:Int) from rfl] at e;rw [e];unfold rdT;generalize Nq 2 r s=t at *
 obtain ⟨t1,t2,t3⟩:=t;replace h1:Bytes t1:=h1;replace h3:t1.length<=_:=h3;have hv:=Js h1;have e2:=XA (val t1).toNat t2 t3;rw [show (((val t1).toNat:Nat):Int)=val t1 from by omega] at e2;simp only [↓aF,aG,aiy t1 t2 t3 h1 h3];rw [e2];rfl
theorem aiz (r:List Int) (s:Bool):uh (r,s)=some (decide (s=false/\r=[])):=by
 unfold uh;cases s
 ·cases r with
  | nil=>rfl
  | cons a l=>simp;omega
 ·rfl
theorem ZL {β:Type} {r:List Int} (s:Bool) (h:Bytes r) (f:_->Option β):ah (qy (r,s)) f=f (rdN r s):=by rw [apr r s h];rfl
theorem Ve {β:Type} {r:List Int} (s:Bool) (h:Bytes r) (f:_->Option β):ah (wS (r,s)) f=f (rdT r s):=by rw [aps r s h];rfl
theorem ZM {β:Type} (r:List Int) (s:Bool) (f:Bool->Option β):ah (uh (r,s)) f=f (decide (s=false/\r=[])):=by rw [aiz];rfl
theorem qY {r:List Int} {s:Bool} (h:Bytes r):Bytes (rdN r s).2.1:=(qX h).2.1
theorem GY {r:List Int} {s:Bool} (h:Bytes r):Bytes (rdT r s).2.1:=(qX (qX h).2.1).2.1
theorem BM {r:List Int} {s:Bool} (h:Bytes r):0<=(rdN r s).1/\(rdN r s).1<18446744073709551616:=by
 have h1:=Js (qX (n:=8) (s:=s) h).1;have h2:=(qX (n:=8) (s:=s) h).2.2;have hp:(256:Int) ^ (Nq 8 r s).1.length<=256 ^ 8:=by
  have:=Nat.pow_le_pow_right (show 0<256 by decide) h2
  exact_mod_cast this
 have h8:(256:Int) ^ 8=18446744073709551616:=by decide
 show 0<=val (Nq 8 r s).1/\val (Nq 8 r s).1<18446744073709551616;omega
set_option maxHeartbeats 4000000
theorem VL.opb {g:LG} (h:VL g) {p:Nat} (hp:p<opn g.2.2.2.1):Opb (g.2.2.2.1.getD p b0):=by
 have ho:=tq g.2.2.2.1;have hb:=h.at (i:=p) (by omega);have hz:=MN hp;obtain ⟨k1,k2,k3,k4,k5⟩:=hb;refine ⟨?_,?_,k1.2.1⟩
 ·rcases k5 with k5 | k5
  ·exact ⟨k5.1,k5.2.1,k5.2.2.1⟩
  ·exact (k5.1 hz).elim
 ·have:=k2.1;omega
open Classical in
def GZ (g:LG) (rs:List Ra) (fr:Int) (c:Tx) (t:Int):LG×Int :=
 if Tm g t/\Rt.TV rs fr then (if Cb c g.2.2.2.1 then tC rs fr g (gZ c g.2.2.2.1) t t else (zG,8)) else (zG,2)
theorem afr (g:LG) (rs:List Ra) (fr:Int) (c:Tx) (t:Int) (hl:g.2.2.2.1.length<=1000000) (hB:g.1.length<=900000):nP (g,((rs,fr),(c,t)))=some (GZ g rs fr c t):=by
 have ho:=tq g.2.2.2.1;rw [apb];unfold GZ;by_cases h:Tm g t/\Rt.TV rs fr
 ·rw [if_pos h];obtain ⟨htm,hr⟩:=h;have hv:=htm.1;have ht:=htm.2;have h0:=hv.2.1;have hs:=hv.srt;have hR:∀ {β:Type} (f:Bool->Option β),ah (aW (rs,fr)) f=f true:=fun f=>by rw [Rt.jB hr];rfl
  by_cases hf:Cb c g.2.2.2.1
  ·rw [if_pos hf];have hlt:gZ c g.2.2.2.1<g.2.2.2.1.length:=by have:=hf.1;omega
   have hfin:=ajQ rs fr g t hlt hl hB ⟨hv.1.1,hv.1.2.1⟩ hv.1.2.2.1 hv.2.2.1 (hv.opb hf.1) ⟨by omega,ht.2⟩;have hF:∀ {β:Type} (f:LG×Int->Option β),ah (ji (g,((rs,fr),(((gZ c g.2.2.2.1:Nat):Int),t)))) f=f (tC rs fr g (gZ c g.2.2.2.1) t g.2.2.2.2.2):=fun f=>by rw [hfin];rfl
   simp (disch:=(first | omega | (simp only [bJ];omega))) only [↓aF,aG,↓(oq g hl).b,dL hv,↓jC,if_pos,↓hR,↓tu g c hl hs,dL hf,↓hF];unfold tC;split
   ·rfl
   ·rfl
  ·rw [if_neg hf];simp (disch:=(first | omega | (simp only [bJ];omega))) only [↓aF,aG,↓(oq g hl).b,dL hv,↓jC,if_pos,↓hR,↓tu g c hl hs,jP hf];rfl
 ·rw [if_neg h];by_cases hv:VL g
  ·by_cases h1:g.2.2.2.2.2<=t/\t<=1099511627776
   ·have hr:¬Rt.TV rs fr:=fun k=>h ⟨⟨hv,h1⟩,k⟩;have hR:∀ {β:Type} (f:Bool->Option β),ah (aW (rs,fr)) f=f false:=fun f=>by rw [Rt.Aq hr];rfl
    simp (disch:=(first | omega | (simp only [bJ];omega))) only [↓aF,aG,↓(oq g hl).b,dL hv,↓jC,if_pos,↓hR];rfl
   ·simp (disch:=(first | omega | (simp only [bJ];omega))) only [↓aF,aG,↓(oq g hl).b,dL hv,↓jC,if_neg,h1,decide_false];rfl
  ·simp only [↓aF,aG,↓(oq g hl).b,jP hv];rfl
def Rec (n:Int) (l:List BL) (i:Nat):Prop:=n > 0/\(l.getD i b0).2.2.2.2.2.2.1=n
def SB (x:BL):BL:=(x.1,(x.2.1,(x.2.2.1,(x.2.2.2.1,(x.2.2.2.2.1,(x.2.2.2.2.2.1,(x.2.2.2.2.2.2.1,(x.2.2.2.2.2.2.2.1,(x.2.2.2.2.2.2.2.2.1,true)))))))))
def gvR (g:LG) (n:Int) (i:Nat):LG×Int :=
 if (g.2.2.2.1.getD i b0).2.2.2.2.2.2.2.2.2=true then (zG,9) else if g.2.2.1>=1048576 then (zG,10) else
 ((g.1++Jn.jU g.2.2.1 5 (lX [n] []),(g.2.1,(g.2.2.1+1,(g.2.2.2.1.set i (SB (g.2.2.2.1.getD i b0)),(g.2.2.2.2.1,g.2.2.2.2.2))))),0)
theorem apt (g:LG) (n:Int) (hl:g.2.2.2.1.length<=1000000):(∃i,i<g.2.2.2.1.length/\Rec n g.2.2.2.1 i/\(∀j,j<i->¬Rec n g.2.2.2.1 j)/\dK (g,n)=some ((i:Nat):Int))\/((∀i,i<g.2.2.2.1.length->¬Rec n g.2.2.2.1 i)/\dK (g,n)=some (-1:Int)):=by
 rw [ao2];have hL:=lM (body:=rcB g n) g.2.2.2.1.length (fun i=>Rec n g.2.2.2.1 i) (fun i => .inr ((i:Nat):Int)) (.inl ()) (fun i hi hn=>by
  obtain ⟨x,hx,hxb⟩:=get_at b0 hi;unfold Rec at hn;rw [hx] at hn;unfold rcB;by_cases h0:n > 0
  ·have h1:¬x.2.2.2.2.2.2.1=n:=fun k=>hn ⟨h0,k⟩;simp (disch:=(first | omega | (simp only [bJ];omega))) only [↓aF,aG,if_pos,if_neg,↓hxb,aj];rfl
  ·simp (disch:=(first | omega | (simp only [bJ];omega))) only [↓aF,aG,if_pos,if_neg,↓hxb,aj];rfl) (fun i hi hn=>by
  obtain ⟨x,hx,hxb⟩:=get_at b0 hi;unfold Rec at hn;rw [hx] at hn;unfold rcB;simp (disch:=(first | omega | (simp only [bJ];omega))) only [↓aF,aG,if_pos,if_neg,↓hxb]) (by
  unfold rcB;simp (disch:=(first | omega | (simp only [bJ];omega))) only [↓aF,aG,if_neg])
 rcases hL with ⟨i,k1,k2,k3,e⟩ | ⟨k,e⟩
 ·exact .inl ⟨i,k1,k2,k3,by rw [e];rfl⟩
 ·exact .inr ⟨k,by rw [e];rfl⟩
theorem VL.num {g:LG} (h:VL g) {i:Nat} (hi:i<g.2.2.2.1.length):0<=(g.2.2.2.1.getD i b0).2.2.2.2.2.2.1/\(g.2.2.2.1.getD i b0).2.2.2.2.2.2.1<=1048576/\(opn g.2.2.2.1<=i->1<=(g.2.2.2.1.getD i b0).2.2.2.2.2.2.1):=by
 have hp:=P5 h.2.2.1 (i:=i) (fun j hj=>h.2.2.2.2 j (by omega));have h3:=h.2.2.1;rcases (h.2.2.2.2 i hi).2 with ⟨k,_⟩ | ⟨k,k2,k3⟩
 ·rw [MN k];omega
 ·omega
theorem aqZ {n:Int} (h:0<=n/\n<=1048576):DOk [n] []/\(lX [n] []).length<=4096:=by
 refine ⟨⟨⟨by simp,fun m hm => ?_⟩,by simp,fun t ht=>by cases ht⟩,?_⟩
 ·rw [List.mem_singleton] at hm;subst hm;omega
 ·rw [iJ];simp
theorem apu (g:LG) (n:Int) (hl:g.2.2.2.1.length<=1000000) (hB:g.1.length<=900000):∃r,mM (g,n)=some r/\tK (g,n)=some r /\
 ((¬VL g/\r=(zG,2))\/(VL g/\((∃i,i<g.2.2.2.1.length/\Rec n g.2.2.2.1 i/\r=gvR g n i)\/((∀i,i<g.2.2.2.1.length->¬Rec n g.2.2.2.1 i)/\r=(zG,8))))):=by
 rw [ao8,amE];by_cases hv:VL g
 ·have h2:=hv.2.1;have hL:=lM (body:=gvB g n) g.2.2.2.1.length (fun i=>Rec n g.2.2.2.1 i) (fun i => .inr (.inl ((i:Nat):Int))) (.inl ()) (fun i hi hn=>by
   obtain ⟨x,hx,hxb⟩:=get_at b0 hi;have hnum:=hv.num hi;unfold Rec at hn;rw [hx] at hn hnum;unfold gvB;by_cases h0:x.2.2.2.2.2.2.1≠0
   ·have h1:¬x.2.2.2.2.2.2.1=n:=fun k=>hn ⟨by omega,k⟩;simp (disch:=(first | omega | (simp only [bJ];omega))) only [↓aF,aG,if_pos,if_neg,↓hxb,aj];rfl
   ·simp (disch:=(first | omega | (simp only [bJ];omega))) only [↓aF,aG,if_pos,if_neg,↓hxb,aj];rfl) (fun i hi hn=>by
   obtain ⟨x,hx,hxb⟩:=get_at b0 hi;unfold Rec at hn;rw [hx] at hn;unfold gvB;simp (disch:=(first | omega | (simp only [bJ];omega))) only [↓aF,aG,if_pos,if_neg,↓hxb]) (by
   unfold gvB;simp (disch:=(first | omega | (simp only [bJ];omega))) only [↓aF,aG,if_neg])
  have hR:=apt g n hl;have hRb:∀ {β:Type} {v:Int} (f:Int->Option β),dK (g,n)=some v->ah (dK (g,n)) f=f v:=fun f e=>by rw [e];rfl
  rcases hL with ⟨i,k1,k2,k3,e⟩ | ⟨k,e⟩
  ·rcases hR with ⟨i',k1',k2',k3',e'⟩ | ⟨k',_⟩
   ·have hii:i'=i:=by
     rcases Nat.lt_trichotomy i' i with h | h | h
     ·exact (k3 _ h k2').elim
     ·exact h
     ·exact (k3' _ h k2).elim
    subst hii;have hnum:=hv.num k1;have hn:(g.2.2.2.1.getD i' b0).2.2.2.2.2.2.1=n:=k2.2;rw [hn] at hnum;have hd:=aqZ (n:=n) ⟨hnum.1,hnum.2.1⟩;refine ⟨gvR g n i',?_,?_,.inr ⟨hv,.inl ⟨i',k1,k2,rfl⟩⟩⟩
    ·unfold gvR;obtain ⟨x,hx,hxb⟩:=get_at b0 k1;rw [hx];rw [Int.toNat_natCast] at hxb;cases hg:x.2.2.2.2.2.2.2.2.2 with
     | true =>
       rw [if_pos rfl];simp (disch:=(first | omega | (simp only [bJ];omega))) only [↓aF,aG,↓(oq g hl).b,dL hv,↓e,if_pos,if_neg,Int.toNat_natCast,↓hxb,hg];rfl
     | false =>
       rw [if_neg (by simp)];by_cases hc:g.2.2.1>=1048576
       ·rw [if_pos hc];simp (disch:=(first | omega | (simp only [bJ];omega))) only [↓aF,aG,↓(oq g hl).b,dL hv,↓e,if_pos,if_neg,Int.toNat_natCast,↓hxb,hg,↓qx hd.1,↓Xz hc];rfl
       ·rw [if_neg hc];have hlg:=hv.lg hB (by omega);simp (disch:=first | omega | (simp only [bJ];omega)) only [↓aF,aG,↓(oq g hl).b,dL hv,↓e,if_pos,if_neg,Int.toNat_natCast,↓hxb,hg,↓qx hd.1,↓Xy hlg (show (0:Int)<=5/\(5:Int)<=255 by omega) (iV _ _) hd.2,↓oP hl];rw [List.take_of_length_le (by simp)];rfl
    ·unfold gvR;obtain ⟨x,hx,hxb⟩:=get_at b0 k1;rw [hx];rw [Int.toNat_natCast] at hxb;cases hg:x.2.2.2.2.2.2.2.2.2 with
     | true =>
       rw [if_pos rfl];simp (disch:=(first | omega | (simp only [bJ];omega))) only [↓aF,aG,↓(Ry g hl).b,dL hv,↓hRb _ e',if_pos,if_neg,Int.toNat_natCast,↓hxb,hg];rfl
     | false =>
       rw [if_neg (by simp)];by_cases hc:g.2.2.1>=1048576
       ·rw [if_pos hc];simp (disch:=(first | omega | (simp only [bJ];omega))) only [↓aF,aG,↓(Ry g hl).b,dL hv,↓hRb _ e',if_pos,if_neg,Int.toNat_natCast,↓hxb,hg,↓afo];rfl
       ·rw [if_neg hc];have hlg:=hv.lg hB (by omega);have hmx:dM g.2.2.2.2.2 0=g.2.2.2.2.2:=by unfold dM;rw [if_neg (by omega)]
        have he:jl (g,(5,(0,(n,(0,(0,([],([],[]))))))))  = some (atG g (g.2.2.2.1.set i' (SB x)) g.2.2.2.2.1 0,true):=by
         rw [ape];unfold atG;rw [hmx];simp (disch:=first | omega | (simp only [bJ];omega)) only [↓aF,aG,decide_true,↓hRb _ e',if_pos,if_neg,Int.toNat_natCast,↓hxb,hg];rw [List.take_of_length_le (by simp)];rfl
        have hr:xO (5,(0,(n,(0,(0,([],([],[])))))))=some (5,lX [n] []):=by
         rw [apg];simp (disch:=(first | omega | (simp only [bJ];omega))) only [↓aF,aG,if_pos,if_neg,↓aiv hd.1]
        simp (disch:=(first | omega | (simp only [bJ];omega))) only [↓aF,aG,↓(Ry g hl).b,dL hv,↓hRb _ e',if_pos,if_neg,Int.toNat_natCast,↓hxb,hg,↓afo,↓amL he hr hlg (show (0:Int)<=5/\(5:Int)<=255 by omega) (iV _ _) hd.2,hmx]
   ·exact (k' i k1 k2).elim
  ·rcases hR with ⟨i',k1',k2',_,_⟩ | ⟨_,e'⟩
   ·exact (k i' k1' k2').elim
   ·refine ⟨(zG,8),?_,?_,.inr ⟨hv,.inr ⟨k,rfl⟩⟩⟩
    ·simp (disch:=(first | omega | (simp only [bJ];omega))) only [↓aF,aG,↓(oq g hl).b,dL hv,↓e,if_pos];rfl
    ·simp (disch:=(first | omega | (simp only [bJ];omega))) only [↓aF,aG,↓(Ry g hl).b,dL hv,↓hRb _ e',if_pos];rfl
 ·refine ⟨(zG,2),?_,?_,.inl ⟨hv,rfl⟩⟩
  ·simp only [↓aF,aG,↓(oq g hl).b,jP hv];rfl
  ·simp only [↓aF,aG,↓(Ry g hl).b,jP hv];rfl
end Go.Proofs.Ytkpijdndakljjaa
end
