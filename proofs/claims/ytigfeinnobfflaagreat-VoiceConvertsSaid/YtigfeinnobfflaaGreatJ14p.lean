import Derived.Test.YtigfeinnobfflaaGreatZ3p
import Derived.Test.YtigfeinnobfflaaGreatXBp
set_option linter.unusedSimpArgs false
set_option linter.unusedVariables false
set_option maxRecDepth 1000000
set_option maxHeartbeats 0
namespace Go.Proofs.YtigfeinnobfflaaGreat
open Go.RowKit
def agm:List (Nat×PL):=[]
noncomputable def bU:(Bool×(Int×(Bool×(Int×(Int×(LU×(LU×(Int×(Bool×LN)))))))))->Option Int:=fun (a1,(a2,(a3,(a4,(a5,(a6,(a7,(a8,(a9,a10))))))))) =>
 bif a9 then
 some (IntKind.wrap .i64 (a8+a4))
 else
 some (IntKind.wrap .i64 (a8+a2))
noncomputable def agn:List (Nat×CE):=[]
theorem VU:cu Tryz.prog agn:=trivial
noncomputable def ZR:CE:=⟨[(.tmp 0 true [dO,dI,dO,dI,dI,dS,dS,dI,dO,dY])],[(.tmp 0 false [dI])],bU⟩
theorem N9:aB Tryz.prog 30 ZR :=nK agm dD VU Tryz.func30
def agp:List (Nat×PL):=[]
noncomputable def lF:(Bool×Bool)->Option Int:=fun (a1,a2) =>
 bif (a1==a2) then
 some (0:Int)
 else
 bif a1 then
 some (1:Int)
 else
 some (-1:Int)
noncomputable def agq:List (Nat×CE):=[(30,ZR)]
theorem VW:cu Tryz.prog agq:=⟨N9,trivial⟩
noncomputable def ajE:CE:=⟨[(.tmp 0 false [dO]),(.tmp 1 false [dO])],[(.tmp 0 false [dI])],lF⟩
theorem ad4:aB Tryz.prog 37 ajE :=nK agp dD VW Tryz.func37
def agr:List (Nat×PL):=[(68853956640,(.carry [.tmp 0 false [dI]])),(9241421624031576577,(.carry [])),(1240362613867588408289003526,(.carry [.tmp 8 false [dI]]))]
noncomputable def aY:(Int×(Int×(List ((Bool×(Int×(Bool×Int)))×(Int×(LU×(LU×(Int×(Bool×LN)))))))))->Option Int:=fun (a1,(a2,a3)) =>
 bif (decide ((0<=a1)/\(a1<(a3.length:Int)))) then
 ah a3[a1.toNat]? fun x4 =>
 bif (decide ((0<=a2)/\(a2<(a3.length:Int)))) then
 ah a3[a2.toNat]? fun x5 =>
 ah (bU (x4.1.1,(x4.1.2.1,(x4.1.2.2.1,(x4.1.2.2.2,(x4.2.1,(x4.2.2.1,(x4.2.2.2.1,(x4.2.2.2.2.1,(x4.2.2.2.2.2.1,x4.2.2.2.2.2.2)))))))))) fun x6 =>
 ah (bU (x5.1.1,(x5.1.2.1,(x5.1.2.2.1,(x5.1.2.2.2,(x5.2.1,(x5.2.2.1,(x5.2.2.2.1,(x5.2.2.2.2.1,(x5.2.2.2.2.2.1,x5.2.2.2.2.2.2)))))))))) fun x7 =>
 ah (cmp_Compare_int (x6,x7)) fun x8 =>
 ah (cmp_Compare_int (x4.2.1,x5.2.1)) fun x9 =>
 ah (lF (x4.2.2.2.2.2.1,x5.2.2.2.2.2.1)) fun x10 =>
 au (au (bn (fun v11 =>
 bif (decide (v11<3)) then
 bif (decide ((0<=v11)/\(v11<3))) then
 ah (x8::(x9::(x10::([]:List Int))))[v11.toNat]? fun x12 =>
 bif (decide (x12≠0)) then
 aA (aA (some (Sum.inl x12)))
 else
 some (Sum.inl (IntKind.wrap .i64 (v11+(1:Int))))
 else none
 else
 aA (some (Sum.inl ()))) (0:Int)) fun _ =>
 some (Sum.inl (0:Int))) fun v14 =>
 some v14
 else none
 else none
noncomputable def ags:List (Nat×CE):=[(36,acy),(30,ZR),(37,ajE)]
theorem VX:cu Tryz.prog ags:=⟨TP,N9,ad4,trivial⟩
noncomputable def ajF:CE:=⟨[.tmp 0 false [.dat ak],.tmp 1 false [.dat ak],.tmp 2 false [.pt 20000001 0],.mix 20000001 [.own 20000002 112 LC]],[.tmp 0 false [.dat ak]],aY⟩
theorem ad5:aB Tryz.prog 34 ajF :=
 dF (bV (plan:=fA agr) (eg:=dD) KK dM (bM VX) Tryz.func34 (by kernel_rfl) (by kernel_rfl) 10000 (fun a r h=>Eq.trans (show _=aY a from by kernel_rfl) h)) (by rfl)
def acP:List (Nat×PL):=[(134481926,(.carry [.tmp 8 false [dI],.row 20000003 3 ak])),(35253630009857,(.carry [.tmp 9 false [dI],.row 20000003 3 ak])),(2422611007321851379845126,(.carry [.tmp 9 false [dI],.row 20000003 3 ak]))]
noncomputable def bC:(LN×(Int×(Int×(List ((Bool×(Int×(Bool×Int)))×(Int×(LU×(LU×(Int×(Bool×LN))))))))))->Option LN:=fun (a1,(a2,(a3,a4))) =>
 bn (fun (v6,v7) =>
 bif (decide (v6<a3)) then
 au (bn (fun (v8,v9) =>
 bif (decide (v8 > a2)) then
 bif (decide ((0<=v8)/\(v8<(a1.length:Int)))) then
 ah v9[v8.toNat]? fun x10 =>
 ah (some (IntKind.wrap .i64 (v8-(1:Int)))) fun x11 =>
 bif (decide ((0<=x11)/\(x11<(a1.length:Int)))) then
 ah v9[x11.toNat]? fun x12 =>
 bif (decide (a4.length=a4.length)) then
 ah (aY (x10,(x12,a4))) fun x13 =>
 bif (decide (x13<0)) then
 ah (some (IntKind.wrap .i64 (v8-(1:Int)))) fun x14 =>
 ah (some (IntKind.wrap .i64 (v8-(1:Int)))) fun x15 =>
 bif (decide ((0<=x15)/\(x15<(a1.length:Int)))) then
 ah v9[x15.toNat]? fun x16 =>
 bif (decide ((0<=v8)/\(v8<(a1.length:Int)))) then
 ah v9[v8.toNat]? fun x17 =>
 bif (decide ((0<=v8)/\(v8<(a1.length:Int)))) then
 ah v9[v8.toNat]? fun x18 =>
 bif (decide ((0<=x14)/\(x14<(a1.length:Int)))) then
 ah (List.set v9 v8.toNat x16)[x14.toNat]? fun x19 =>
 some (Sum.inl ((IntKind.wrap .i64 (v8-(1:Int))),(List.set (List.set v9 v8.toNat x16) x14.toNat x17)))
 else none
 else none
 else none
 else none
 else
 aA (some (Sum.inl (v8,v9)))
 else none
 else none
 else none
 else
 aA (some (Sum.inl (v8,v9)))) (v6,v7)) fun (v21,v22) =>
 some (Sum.inl ((IntKind.wrap .i64 (v6+(1:Int))),v22))
 else
 aA (some v7)) ((IntKind.wrap .i64 (a2+(1:Int))),a1)
noncomputable def acQ:List (Nat×CE):=[(34,ajF)]
theorem QS:cu Tryz.prog acQ:=⟨ad5,trivial⟩
noncomputable def ZT:CE:=⟨[.tmp 0 false [.own 20000003 3 ak],.tmp 1 false [.dat ak],.tmp 2 false [.dat ak],.tmp 3 false [.cl 34 [(20000001,0)]],.mix 20000001 [.own 20000002 112 LC]],[.row 20000003 3 ak],bC⟩
theorem QT:aB Tryz.prog 112 ZT :=
 dF (bV (plan:=fA acP) (eg:=dD) KK dM (bM QS) Tryz.func112 (by kernel_rfl) (by kernel_rfl) 10000 (fun a r h=>Eq.trans (show _=bC a from by kernel_rfl) h)) (by rfl)
def acR:List (Nat×PL):=[(134481926,(.carry [.tmp 10 false [dI],.row 20000003 3 ak]))]
noncomputable def bG:(LN×(Int×(Int×(Int×(List ((Bool×(Int×(Bool×Int)))×(Int×(LU×(LU×(Int×(Bool×LN)))))))))))->Option LN:=fun (a1,(a2,(a3,(a4,a5)))) =>
 bn (fun (v6,v7) =>
 bif (decide (v6<a4)) then
 ah (some (IntKind.wrap .i64 (a2+v6))) fun x8 =>
 ah (some (IntKind.wrap .i64 (a3+v6))) fun x9 =>
 ah (some (IntKind.wrap .i64 (a3+v6))) fun x10 =>
 bif (decide ((0<=x10)/\(x10<(a1.length:Int)))) then
 ah v7[x10.toNat]? fun x11 =>
 ah (some (IntKind.wrap .i64 (a2+v6))) fun x12 =>
 bif (decide ((0<=x12)/\(x12<(a1.length:Int)))) then
 ah v7[x12.toNat]? fun x13 =>
 bif (decide ((0<=x8)/\(x8<(a1.length:Int)))) then
 ah v7[x8.toNat]? fun x14 =>
 bif (decide ((0<=x9)/\(x9<(a1.length:Int)))) then
 ah (List.set v7 x8.toNat x11)[x9.toNat]? fun x15 =>
 some (Sum.inl ((IntKind.wrap .i64 (v6+(1:Int))),(List.set (List.set v7 x8.toNat x11) x9.toNat x13)))
 else none
 else none
 else none
 else none
 else
 aA (some v7)) ((0:Int),a1)
noncomputable def acS:List (Nat×CE):=[(112,ZT)]
theorem QU:cu Tryz.prog acS:=⟨QT,trivial⟩
noncomputable def ad6:CE:=⟨[.tmp 0 false [.own 20000003 3 ak],.tmp 1 false [.dat ak],.tmp 2 false [.dat ak],.tmp 3 false [.dat ak],.tmp 4 false [.cl 34 [(20000001,0)]],.mix 20000001 [.own 20000002 112 LC]],[.row 20000003 3 ak],bG⟩
theorem ZU:aB Tryz.prog 127 ad6 :=
 dF (bV (plan:=fA acR) (eg:=dD) KK dM (bM QU) Tryz.func127 (by kernel_rfl) (by kernel_rfl) 10000 (fun a r h=>Eq.trans (show _=bG a from by kernel_rfl) h)) (by rfl)
def acT:List (Nat×PL):=[(134480385,(.carry [.drop 11,.tmp 10 false [dI],.row 20000003 3 ak])),(35253225785350,(.carry [.tmp 11 false [dI],.tmp 10 false [dI],.row 20000003 3 ak]))]
noncomputable def dU:(LN×(Int×(Int×(Int×(List ((Bool×(Int×(Bool×Int)))×(Int×(LU×(LU×(Int×(Bool×LN)))))))))))->Option LN:=fun (a1,(a2,(a3,(a4,a5)))) =>
 au (bn (fun (v8,(v9,v10)) =>
 bif (decide (v9≠v8)) then
 bif (decide (v9 > v8)) then
 bif ((decide (a1.length=v10.length))&&(decide (a5.length=a5.length))) then
 ah (bG (v10,((IntKind.wrap .i64 (a3-v9)),(a3,(v8,a5))))) fun x12 =>
 some (Sum.inl (v8,((IntKind.wrap .i64 (v9-v8)),x12)))
 else none
 else
 bif ((decide (a1.length=v10.length))&&(decide (a5.length=a5.length))) then
 ah (bG (v10,((IntKind.wrap .i64 (a3-v9)),((IntKind.wrap .i64 ((IntKind.wrap .i64 (a3+v8))-v9)),(v9,a5))))) fun x17 =>
 some (Sum.inl ((IntKind.wrap .i64 (v8-v9)),(v9,x17)))
 else none
 else
 aA (some (Sum.inl (v9,v10)))) ((IntKind.wrap .i64 (a4-a3)),((IntKind.wrap .i64 (a3-a2)),a1))) fun (v19,v20) =>
 bif ((decide (a1.length=v20.length))&&(decide (a5.length=a5.length))) then
 ah (bG (v20,((IntKind.wrap .i64 (a3-v19)),(a3,(v19,a5))))) fun x22 =>
 some x22
 else none
noncomputable def acU:List (Nat×CE):=[(127,ad6)]
theorem QW:cu Tryz.prog acU:=⟨ZU,trivial⟩
noncomputable def ajG:CE:=⟨[.tmp 0 false [.own 20000003 3 ak],.tmp 1 false [.dat ak],.tmp 2 false [.dat ak],.tmp 3 false [.dat ak],.tmp 4 false [.cl 34 [(20000001,0)]],.mix 20000001 [.own 20000002 112 LC]],[.row 20000003 3 ak],dU⟩
theorem agt:aB Tryz.prog 124 ajG :=
 dF (bV (plan:=fA acT) (eg:=dD) KK dM (bM QW) Tryz.func124 (by kernel_rfl) (by kernel_rfl) 10000 (fun a r h=>Eq.trans (show _=dU a from by kernel_rfl) h)) (by rfl)
def acV:List (Nat×PL):=[(513,(.carry [])),(18014467497656833,(.carry [.drop 11,.tmp 10 false [dI]])),(262657,(.carry [])),(4722384567705752569862,(.carry [.tmp 11 false [dI],.tmp 10 false [dI]])),(1237944780116656869855201286,(.carry [.tmp 13 false [dI],.row 20000003 3 ak])),(9241386504352432641,(.carry [.drop 15,.tmp 14 false [dI]])),(18049651735527937,(.carry [.tmp 21 false [dI],.tmp 20 false [dI]])),(2422574023796964101982214,(.carry [.tmp 15 false [dI],.tmp 14 false [dI]])),(635063244894231357618206803974,(.carry [.tmp 17 false [dI],.row 20000003 3 ak])),(4731607904558235517441,(.carry [.drop 21,.tmp 20 false [dI]])),(1240362622532514091483793414,(.carry [.tmp 21 false [dI],.tmp 20 false [dI]])),(1240362622532514091484054017,(.carry [.row 20000003 3 ak])),(635065662736647214839835656705,(.carry [.row 20000003 3 ak]))]
noncomputable def dQ (slices_symMergeCmpFunc_int_h:(LN×(Int×(Int×(Int×(List ((Bool×(Int×(Bool×Int)))×(Int×(LU×(LU×(Int×(Bool×LN)))))))))))->Option LN):(LN×(Int×(Int×(Int×(List ((Bool×(Int×(Bool×Int)))×(Int×(LU×(LU×(Int×(Bool×LN)))))))))))->Option LN:=fun (a1,(a2,(a3,(a4,a5)))) =>
 au (bif (decide ((IntKind.wrap .i64 (a3-a2))=1)) then
 au (bn (fun (v7,v8) =>
 bif (decide (v8<v7)) then
 ah (some (Int.fdiv (IntKind.wrap .u64 (IntKind.wrap .i64 (v8+v7))) (2:Int))) fun x11 =>
 bif (decide ((0<=(IntKind.wrap .i64 x11))/\((IntKind.wrap .i64 x11)<(a1.length:Int)))) then
 ah a1[(Int.toNat (IntKind.wrap .i64 x11))]? fun x13 =>
 bif (decide ((0<=a2)/\(a2<(a1.length:Int)))) then
 ah a1[a2.toNat]? fun x14 =>
 bif (decide (a5.length=a5.length)) then
 ah (aY (x13,(x14,a5))) fun x15 =>
 bif (decide (x15<0)) then
 some (Sum.inl (v7,(IntKind.wrap .i64 ((IntKind.wrap .i64 x11)+(1:Int)))))
 else
 some (Sum.inl ((IntKind.wrap .i64 x11),v8))
 else none
 else none
 else none
 else
 aA (some (Sum.inl v8))) (a4,a3)) fun v17 =>
 bn (fun (v18,v19) =>
 bif (decide (v18<(IntKind.wrap .i64 (v17-(1:Int))))) then
 ah (some (IntKind.wrap .i64 (v18+(1:Int)))) fun x21 =>
 ah (some (IntKind.wrap .i64 (v18+(1:Int)))) fun x22 =>
 bif (decide ((0<=x22)/\(x22<(a1.length:Int)))) then
 ah v19[x22.toNat]? fun x23 =>
 bif (decide ((0<=v18)/\(v18<(a1.length:Int)))) then
 ah v19[v18.toNat]? fun x24 =>
 bif (decide ((0<=v18)/\(v18<(a1.length:Int)))) then
 ah v19[v18.toNat]? fun x25 =>
 bif (decide ((0<=x21)/\(x21<(a1.length:Int)))) then
 ah (List.set v19 v18.toNat x23)[x21.toNat]? fun x26 =>
 some (Sum.inl ((IntKind.wrap .i64 (v18+(1:Int))),(List.set (List.set v19 v18.toNat x23) x21.toNat x24)))
 else none
 else none
 else none
 else none
 else
 aA (aA (some v19))) (a2,a1)
 else
 some (Sum.inl ())) fun _ =>
 au (bif (decide ((IntKind.wrap .i64 (a4-a3))=1)) then
 au (bn (fun (v29,v30) =>
 bif (decide (v30<v29)) then
 ah (some (Int.fdiv (IntKind.wrap .u64 (IntKind.wrap .i64 (v30+v29))) (2:Int))) fun x33 =>
 bif (decide ((0<=a3)/\(a3<(a1.length:Int)))) then
 ah a1[a3.toNat]? fun x35 =>
 bif (decide ((0<=(IntKind.wrap .i64 x33))/\((IntKind.wrap .i64 x33)<(a1.length:Int)))) then
 ah a1[(Int.toNat (IntKind.wrap .i64 x33))]? fun x36 =>
 bif (decide (a5.length=a5.length)) then
 ah (aY (x35,(x36,a5))) fun x37 =>
 bif (!(decide (x37<0))) then
 some (Sum.inl (v29,(IntKind.wrap .i64 ((IntKind.wrap .i64 x33)+(1:Int)))))
 else
 some (Sum.inl ((IntKind.wrap .i64 x33),v30))
 else none
 else none
 else none
 else
 aA (some (Sum.inl v30))) (a3,a2)) fun v39 =>
 bn (fun (v40,v41) =>
 bif (decide (v40 > v39)) then
 ah (some (IntKind.wrap .i64 (v40-(1:Int)))) fun x42 =>
 ah (some (IntKind.wrap .i64 (v40-(1:Int)))) fun x43 =>
 bif (decide ((0<=x43)/\(x43<(a1.length:Int)))) then
 ah v41[x43.toNat]? fun x44 =>
 bif (decide ((0<=v40)/\(v40<(a1.length:Int)))) then
 ah v41[v40.toNat]? fun x45 =>
 bif (decide ((0<=v40)/\(v40<(a1.length:Int)))) then
 ah v41[v40.toNat]? fun x46 =>
 bif (decide ((0<=x42)/\(x42<(a1.length:Int)))) then
 ah (List.set v41 v40.toNat x44)[x42.toNat]? fun x47 =>
 some (Sum.inl ((IntKind.wrap .i64 (v40-(1:Int))),(List.set (List.set v41 v40.toNat x44) x42.toNat x45)))
 else none
 else none
 else none
 else none
 else
 aA (aA (some v41))) (a3,a1)
 else
 some (Sum.inl ())) fun _ =>
 ah (some (Int.fdiv (IntKind.wrap .u64 (IntKind.wrap .i64 (a2+a4))) (2:Int))) fun x51 =>
 ah (some (IntKind.wrap .i64 ((IntKind.wrap .i64 x51)+a3))) fun x53 =>
 au (bif (decide (a3 > (IntKind.wrap .i64 x51))) then
 some (Sum.inl ((IntKind.wrap .i64 x51),(IntKind.wrap .i64 (x53-a4))))
 else
 some (Sum.inl (a3,a2))) fun (v55,v56) =>
 au (bn (fun (v58,v59) =>
 bif (decide (v59<v58)) then
 ah (some (Int.fdiv (IntKind.wrap .u64 (IntKind.wrap .i64 (v59+v58))) (2:Int))) fun x62 =>
 ah (some (IntKind.wrap .i64 ((IntKind.wrap .i64 (x53-(1:Int)))-(IntKind.wrap .i64 x62)))) fun x64 =>
 bif (decide ((0<=x64)/\(x64<(a1.length:Int)))) then
 ah a1[x64.toNat]? fun x65 =>
 bif (decide ((0<=(IntKind.wrap .i64 x62))/\((IntKind.wrap .i64 x62)<(a1.length:Int)))) then
 ah a1[(Int.toNat (IntKind.wrap .i64 x62))]? fun x66 =>
 bif (decide (a5.length=a5.length)) then
 ah (aY (x65,(x66,a5))) fun x67 =>
 bif (!(decide (x67<0))) then
 some (Sum.inl (v58,(IntKind.wrap .i64 ((IntKind.wrap .i64 x62)+(1:Int)))))
 else
 some (Sum.inl ((IntKind.wrap .i64 x62),v59))
 else none
 else none
 else none
 else
 aA (some (Sum.inl v59))) (v55,v56)) fun v69 =>
 ah (some (IntKind.wrap .i64 (x53-v69))) fun x70 =>
 au (bif (decide (v69<a3)) then
 bif (decide (a3<x70)) then
 bif ((decide (a1.length=a1.length))&&(decide (a5.length=a5.length))) then
 ah (dU (a1,(v69,(a3,(x70,a5))))) fun x71 =>
 some (Sum.inl x71)
 else none
 else
 some (Sum.inl a1)
 else
 some (Sum.inl a1)) fun v72 =>
 au (bif (decide (a2<v69)) then
 bif (decide (v69<(IntKind.wrap .i64 x51))) then
 bif ((decide (a1.length=v72.length))&&(decide (a5.length=a5.length))) then
 ah (slices_symMergeCmpFunc_int_h (v72,(a2,(v69,((IntKind.wrap .i64 x51),a5))))) fun x73 =>
 some (Sum.inl x73)
 else none
 else
 some (Sum.inl v72)
 else
 some (Sum.inl v72)) fun v74 =>
 bif (decide ((IntKind.wrap .i64 x51)<x70)) then
 bif (decide (x70<a4)) then
 bif ((decide (a1.length=v74.length))&&(decide (a5.length=a5.length))) then
 ah (slices_symMergeCmpFunc_int_h (v74,((IntKind.wrap .i64 x51),(x70,(a4,a5))))) fun x75 =>
 some x75
 else none
 else
 some v74
 else
 some v74
noncomputable def acW (slices_symMergeCmpFunc_int_h:(LN×(Int×(Int×(Int×(List ((Bool×(Int×(Bool×Int)))×(Int×(LU×(LU×(Int×(Bool×LN)))))))))))->Option LN):List (Nat×CE):=[(113,⟨[.tmp 0 false [.own 20000003 3 ak],.tmp 1 false [.dat ak],.tmp 2 false [.dat ak],.tmp 3 false [.dat ak],.tmp 4 false [.cl 34 [(20000001,0)]],.mix 20000001 [.own 20000002 112 LC]],[.row 20000003 3 ak],slices_symMergeCmpFunc_int_h⟩),(61,⟨[(.tmp 0 true [dI,dI])],[(.tmp 0 false [dO])],ay⟩),(116,⟨[(.tmp 0 true [dI,dI,dO,fB,dY])],[(.tmp 0 false [dO])],jT⟩),(36,⟨[(.tmp 0 false [dI]),(.tmp 1 false [dI])],[(.tmp 0 false [dI])],cmp_Compare_int⟩),(120,⟨[(.tmp 0 false [dI]),(.tmp 1 false [dI])],[(.tmp 0 false [dI])],jY⟩),(103,⟨[(.tmp 0 true [dI,dI,dI,dO,fB,dY]),(.tmp 1 true [dI,dI,dI,dO,fB,dY])],[(.tmp 0 false [dI])],jM⟩),(108,⟨[(.tmp 0 false [dI])],[(.tmp 0 false [dI])],jA⟩),(77,⟨[(.tmp 0 true [dI,dI,dI,dO,dI,dI,dI,dI,dI,dI,(.dat (.list (.pair ak (.pair ak (.pair ak (.pair .bool (.pair aX (.list aX)))))))),dI,dI,dI]),(.tmp 1 false [dI])],[(.tmp 0 false [dI])],ji⟩),(101,⟨[(.tmp 0 true [dI,dI,dO,fB,dY])],[(.tmp 0 true [dI,dI,dO,fB,dY])],eP⟩),(107,⟨[(.tmp 0 true [dI,dI,dI,dO,dI,dI,dI,dI,dI,dI,(.dat (.list (.pair ak (.pair ak (.pair ak (.pair .bool (.pair aX (.list aX)))))))),dI,dI,dI])],[(.tmp 0 false [dO])],jo⟩),(76,⟨[(.tmp 0 true [dI,dI,dI,dO,dI,dI,dI,dI,dI,dI,(.dat (.list (.pair ak (.pair ak (.pair ak (.pair .bool (.pair aX (.list aX)))))))),dI,dI,dI])],[(.tmp 0 false [dO])],iJ⟩),(41,⟨[(.tmp 0 true [dI,dI,dI,dO,dI,dI,dI,dI,dI,dI,(.dat (.list (.pair ak (.pair ak (.pair ak (.pair .bool (.pair aX (.list aX)))))))),dI,dI,dI]),(.tmp 1 false [dI])],[(.tmp 0 false [dI])],jO⟩),(96,⟨[(.tmp 0 true [dI,dI,dI,dO,dI,dI,dI,dI,dI,dI,(.dat (.list (.pair ak (.pair ak (.pair ak (.pair .bool (.pair aX (.list aX)))))))),dI,dI,dI]),(.tmp 1 false [dI]),(.tmp 2 true [dI,dI,dO,fB,dY])],[(.tmp 0 false [fB])],kW⟩),(119,⟨[(.tmp 0 false [(.dat (.list (.pair ak (.pair ak (.pair ak (.pair .bool (.pair aX (.list aX))))))))])],[(.tmp 0 false [(.dat (.list (.pair ak (.pair ak (.pair ak (.pair .bool (.pair aX (.list aX))))))))])],fM⟩),(97,⟨[(.tmp 0 true [dI,dI,dI,dO,dI,dI,dI,dI,dI,dI,(.dat (.list (.pair ak (.pair ak (.pair ak (.pair .bool (.pair aX (.list aX)))))))),dI,dI,dI]),(.tmp 1 false [dI])],[(.tmp 0 true [dI,dI,dI,dO,dI,dI,dI,dI,dI,dI,(.dat (.list (.pair ak (.pair ak (.pair ak (.pair .bool (.pair aX (.list aX)))))))),dI,dI,dI]),(.tmp 1 false [(.dat (.list (.pair ak (.pair ak (.pair ak (.pair .bool (.pair aX (.list aX))))))))])],qU⟩),(89,⟨[(.tmp 0 true [dI,dI,dI,dO,dI,dI,dI,dI,dI,dI,(.dat (.list (.pair ak (.pair ak (.pair ak (.pair .bool (.pair aX (.list aX)))))))),dI,dI,dI]),(.tmp 1 false [dI])],[(.tmp 0 true [dI,dI,dI,dO,dI,dI,dI,dI,dI,dI,(.dat (.list (.pair ak (.pair ak (.pair ak (.pair .bool (.pair aX (.list aX)))))))),dI,dI,dI]),(.tmp 1 false [(.dat (.list (.pair ak (.pair ak (.pair ak (.pair .bool (.pair aX (.list aX))))))))]),(.tmp 2 false [fB])],qV⟩),(100,⟨[(.tmp 0 true [dI,dI,dI,dO,dI,dI,dI,dI,dI,dI,(.dat (.list (.pair ak (.pair ak (.pair ak (.pair .bool (.pair aX (.list aX)))))))),dI,dI,dI]),(.tmp 1 true [dI,dI,dO,fB,dY])],[(.tmp 0 true [dI,dI,dI,dO,dI,dI,dI,dI,dI,dI,(.dat (.list (.pair ak (.pair ak (.pair ak (.pair .bool (.pair aX (.list aX)))))))),dI,dI,dI])],xP⟩),(30,⟨[(.tmp 0 true [dO,dI,dO,dI,dI,dS,dS,dI,dO,dY])],[(.tmp 0 false [dI])],bU⟩),(37,⟨[(.tmp 0 false [dO]),(.tmp 1 false [dO])],[(.tmp 0 false [dI])],lF⟩),(34,⟨[.tmp 0 false [.dat ak],.tmp 1 false [.dat ak],.tmp 2 false [.pt 20000001 0],.mix 20000001 [.own 20000002 112 LC]],[.tmp 0 false [.dat ak]],aY⟩),(112,⟨[.tmp 0 false [.own 20000003 3 ak],.tmp 1 false [.dat ak],.tmp 2 false [.dat ak],.tmp 3 false [.cl 34 [(20000001,0)]],.mix 20000001 [.own 20000002 112 LC]],[.row 20000003 3 ak],bC⟩),(127,⟨[.tmp 0 false [.own 20000003 3 ak],.tmp 1 false [.dat ak],.tmp 2 false [.dat ak],.tmp 3 false [.dat ak],.tmp 4 false [.cl 34 [(20000001,0)]],.mix 20000001 [.own 20000002 112 LC]],[.row 20000003 3 ak],bG⟩),(124,⟨[.tmp 0 false [.own 20000003 3 ak],.tmp 1 false [.dat ak],.tmp 2 false [.dat ak],.tmp 3 false [.dat ak],.tmp 4 false [.cl 34 [(20000001,0)]],.mix 20000001 [.own 20000002 112 LC]],[.row 20000003 3 ak],dU⟩)]
theorem QX (slices_symMergeCmpFunc_int_h:(LN×(Int×(Int×(Int×(List ((Bool×(Int×(Bool×Int)))×(Int×(LU×(LU×(Int×(Bool×LN)))))))))))->Option LN) (hh:aB Tryz.prog 113 ⟨[.tmp 0 false [.own 20000003 3 ak],.tmp 1 false [.dat ak],.tmp 2 false [.dat ak],.tmp 3 false [.dat ak],.tmp 4 false [.cl 34 [(20000001,0)]],.mix 20000001 [.own 20000002 112 LC]],[.row 20000003 3 ak],slices_symMergeCmpFunc_int_h⟩):cu Tryz.prog (acW slices_symMergeCmpFunc_int_h):=⟨hh,Ju,KQ,TP,ZL,KR,KT,TT,KU,ZM,N8,ZO,TV,ZP,ad3,ZQ,agl,N9,ad4,ad5,QT,ZU,agt,trivial⟩
theorem acX (slices_symMergeCmpFunc_int_h:(LN×(Int×(Int×(Int×(List ((Bool×(Int×(Bool×Int)))×(Int×(LU×(LU×(Int×(Bool×LN)))))))))))->Option LN) (hh:aB Tryz.prog 113 ⟨[.tmp 0 false [.own 20000003 3 ak],.tmp 1 false [.dat ak],.tmp 2 false [.dat ak],.tmp 3 false [.dat ak],.tmp 4 false [.cl 34 [(20000001,0)]],.mix 20000001 [.own 20000002 112 LC]],[.row 20000003 3 ak],slices_symMergeCmpFunc_int_h⟩):aB Tryz.prog 113 ⟨[.tmp 0 false [.own 20000003 3 ak],.tmp 1 false [.dat ak],.tmp 2 false [.dat ak],.tmp 3 false [.dat ak],.tmp 4 false [.cl 34 [(20000001,0)]],.mix 20000001 [.own 20000002 112 LC]],[.row 20000003 3 ak],dQ slices_symMergeCmpFunc_int_h⟩ :=
 dF (bV (plan:=fA acV) (eg:=dD) KK dM (bM (QX slices_symMergeCmpFunc_int_h hh)) Tryz.func113 (by kernel_rfl) (by kernel_rfl) 10000 (fun a r h=>Eq.trans (show _=dQ slices_symMergeCmpFunc_int_h a from by kernel_rfl) h)) (by rfl)
noncomputable def dw:Nat->(LN×(Int×(Int×(Int×(List ((Bool×(Int×(Bool×Int)))×(Int×(LU×(LU×(Int×(Bool×LN)))))))))))->Option LN
 | 0=>fun _=>none
 | k+1=>dQ (dw k)
theorem TW:∀k,aB Tryz.prog 113 ⟨[.tmp 0 false [.own 20000003 3 ak],.tmp 1 false [.dat ak],.tmp 2 false [.dat ak],.tmp 3 false [.dat ak],.tmp 4 false [.cl 34 [(20000001,0)]],.mix 20000001 [.own 20000002 112 LC]],[.row 20000003 3 ak],dw k⟩
 | 0=>dF ⟨by kernel_rfl,fun a r h=>by cases h⟩ (by rfl)
 | k+1=>acX _ (TW k)
noncomputable def iY:(LN×(Int×(Int×(Int×(List ((Bool×(Int×(Bool×Int)))×(Int×(LU×(LU×(Int×(Bool×LN)))))))))))->Option LN:=dw 200
noncomputable def ad7:CE:=⟨[.tmp 0 false [.own 20000003 3 ak],.tmp 1 false [.dat ak],.tmp 2 false [.dat ak],.tmp 3 false [.dat ak],.tmp 4 false [.cl 34 [(20000001,0)]],.mix 20000001 [.own 20000002 112 LC]],[.row 20000003 3 ak],iY⟩
theorem agu:aB Tryz.prog 113 ad7:=TW 200
def agv:List (Nat×PL):=[(134480385,(.carry [.tmp 8 false [dI],.tmp 7 false [dI],.row 20000003 3 ak])),(35253225785350,(.carry [.tmp 8 false [dI],.tmp 7 false [dI],.row 20000003 3 ak])),(18049651735529478,(.carry [.tmp 6 false [dI],.tmp 8 false [dI],.tmp 7 false [dI],.row 20000003 3 ak])),(1240362622532619988198490625,(.carry [.tmp 8 false [dI],.tmp 7 false [dI],.row 20000003 3 ak])),(325153619321191134186305126139910,(.carry [.tmp 8 false [dI],.tmp 7 false [dI],.row 20000003 3 ak]))]
noncomputable def gQ:(LN×(Int×(List ((Bool×(Int×(Bool×Int)))×(Int×(LU×(LU×(Int×(Bool×LN)))))))))->Option LN:=fun (a1,(a2,a3)) =>
 au (bn (fun (v4,(v5,v6)) =>
 bif (decide (v4<=a2)) then
 bif ((decide (a1.length=v6.length))&&(decide (a3.length=a3.length))) then
 ah (bC (v6,(v5,(v4,a3)))) fun x7 =>
 some (Sum.inl ((IntKind.wrap .i64 (v4+(20:Int))),(v4,x7)))
 else none
 else
 aA (some (Sum.inl (v4,(v5,v6))))) ((20:Int),((0:Int),a1))) fun (v9,(v10,v11)) =>
 bif ((decide (a1.length=v11.length))&&(decide (a3.length=a3.length))) then
 ah (bC (v11,(v10,(a2,a3)))) fun x12 =>
 bn (fun (v13,(v14,(v15,v16))) =>
 bif (decide (v13<a2)) then
 au (bn (fun (v18,(v19,v20)) =>
 bif (decide (v18<=a2)) then
 bif ((decide (a1.length=v20.length))&&(decide (a3.length=a3.length))) then
 ah (iY (v20,(v19,((IntKind.wrap .i64 (v19+v13)),(v18,a3))))) fun x22 =>
 some (Sum.inl ((IntKind.wrap .i64 (v18+(IntKind.wrap .i64 ((2:Int)*v13)))),(v18,x22)))
 else none
 else
 aA (some (Sum.inl (v18,(v19,v20))))) ((IntKind.wrap .i64 ((2:Int)*v13)),((0:Int),v16))) fun (v25,(v26,v27)) =>
 ah (some (IntKind.wrap .i64 (v26+v13))) fun x28 =>
 bif (decide (x28<a2)) then
 bif ((decide (a1.length=v27.length))&&(decide (a3.length=a3.length))) then
 ah (iY (v27,(v26,(x28,(a2,a3))))) fun x29 =>
 some (Sum.inl ((IntKind.wrap .i64 (v13*(2:Int))),(v25,(v26,x29))))
 else none
 else
 some (Sum.inl ((IntKind.wrap .i64 (v13*(2:Int))),(v25,(v26,v27))))
 else
 aA (some v16)) ((20:Int),(v9,(v10,x12)))
 else none
noncomputable def agw:List (Nat×CE):=[(112,ZT),(113,ad7)]
theorem VY:cu Tryz.prog agw:=⟨QT,agu,trivial⟩
noncomputable def ajH:CE:=⟨[.tmp 0 false [.own 20000003 3 ak],.tmp 1 false [.dat ak],.tmp 2 false [.cl 34 [(20000001,0)]],.mix 20000001 [.own 20000002 112 LC]],[.row 20000003 3 ak],gQ⟩
theorem ajI:aB Tryz.prog 90 ajH :=
 dF (bV (plan:=fA agv) (eg:=dD) KK dM (bM VY) Tryz.func90 (by kernel_rfl) (by kernel_rfl) 10000 (fun a r h=>Eq.trans (show _=gQ a from by kernel_rfl) h)) (by rfl)
def agx:List (Nat×PL):=[]
noncomputable def dJ:(LN×(List ((Bool×(Int×(Bool×Int)))×(Int×(LU×(LU×(Int×(Bool×LN))))))))->Option LN:=fun (a1,a2) =>
 bif ((decide (a1.length=a1.length))&&(decide (a2.length=a2.length))) then
 ah (gQ (a1,((a1.length:Int),a2))) fun x3 =>
 some x3
 else none
noncomputable def agy:List (Nat×CE):=[(90,ajH)]
theorem VZ:cu Tryz.prog agy:=⟨ajI,trivial⟩
noncomputable def ajJ:CE:=⟨[.tmp 0 false [.own 20000003 3 ak],.tmp 1 false [.cl 34 [(20000001,0)]],.mix 20000001 [.own 20000002 112 LC]],[.row 20000003 3 ak],dJ⟩
theorem ajK:aB Tryz.prog 62 ajJ :=
 dF (bV (plan:=fA agx) (eg:=dD) KK dM (bM VZ) Tryz.func62 (by kernel_rfl) (by kernel_rfl) 10000 (fun a r h=>Eq.trans (show _=dJ a from by kernel_rfl) h)) (by rfl)
set_option maxRecDepth 100000
set_option maxHeartbeats 4000000
abbrev Jv:=(Bool×(Int×(Bool×Int)))×(Int×(List UInt8×(List UInt8×(Int×(Bool×List Int)))))
theorem Oa {i j:Int} (hi:0<=i/\i<=100000) (hj:0<=j/\j<=100000):IntKind.wrap .i64 (Int.fdiv (IntKind.wrap .u64 (IntKind.wrap .i64 (i+j))) 2)=(i+j) / 2:=by
 rw [aj (n:=i+j) (by omega),GY,Int.emod_eq_of_lt (by omega) (by omega),Int.fdiv_eq_ediv_of_nonneg _ (by omega),aj (by omega)]
theorem So.t {α:Type} (x:Option α) (h:x≠none):So x (fun _=>True):=by
 cases x with
 | none=>exact (h rfl).elim
 | some a=>exact .mk trivial
theorem agz {due:List Jv} {x y:Int} (hx:0<=x/\x<(due.length:Int)) (hy:0<=y/\y<(due.length:Int)):So (aY (x,(y,due))) (fun _=>True):=by
 unfold aY;refine So.pos hx (So.get (by omega) fun p _ _=>So.pos hy (So.get (by omega) fun q _ _ => ?_));have ha:∀p,So (bU p) (fun _=>True):=fun p=>by
  unfold bU;exact So.if (fun _ => .mk trivial) fun _ => .mk trivial
 have hc:∀p,So (cmp_Compare_int p) (fun _=>True):=fun p=>by
  unfold cmp_Compare_int;exact So.dec (fun _=>So.dec (fun _ => .mk trivial) fun _ => .mk trivial) fun _=>So.dec (fun _ => .mk trivial) fun _=>So.dec (fun _ => .mk trivial) fun _=>So.dec (fun _ => .mk trivial) fun _ => .mk trivial
 have hl:∀p,So (lF p) (fun _=>True):=fun p=>by
  unfold lF;exact So.if (fun _ => .mk trivial) fun _=>So.if (fun _ => .mk trivial) fun _ => .mk trivial
 refine So.bind (ha _) fun _ _=>So.bind (ha _) fun _ _=>So.bind (hc _) fun _ _=>So.bind (hc _) fun _ _=>So.bind (hl _) fun _ _=>So.join (P:=fun _=>True) (So.join (P:=fun _=>True) (So.loop (fun v=>0<=v/\v<=3) (fun v=>(3-v).toNat) (fun v hv => ?_) ⟨by omega,by omega⟩) fun _ _ => .inl trivial) fun _ _ => .mk trivial;refine So.dec (fun h=>So.pos ⟨hv.1,h⟩ (So.get (by simp;omega) fun z _ _=>So.dec (fun _ => .out (.out (.mk trivial))) fun _ => ?_)) fun _ => .out (.inl trivial);rw [aj (by omega)];exact .inl ⟨by omega,by omega⟩
structure Pm (due:List Jv) (L l:List Int):Prop where
 pm:l.Perm L
 len:l.length<=1000
 ok:∀x∈l,0<=x/\x<(due.length:Int)
section
variable {due:List Jv} {L:List Int}
theorem Pm.swap {l:List Int} (h:Pm due L l) {i j:Nat} (hi:i<l.length) (hj:j<l.length):Pm due L ((l.set i l[j]).set j l[i]):=by
 have hp:=List.set_set_perm hi hj;exact ⟨hp.trans h.pm,by rw [hp.length_eq];exact h.len,fun x hx=>h.ok x (hp.mem_iff.1 hx)⟩
theorem Pm.trans {l m:List Int} (h:Pm due L l) (k:Pm due l m):Pm due L m:=⟨k.pm.trans h.pm,k.len,k.ok⟩
theorem Pm.cmp {l:List Int} (h:Pm due L l) {x y:Int} (hx:x∈l) (hy:y∈l):So (aY (x,(y,due))) (fun _=>True):=agz (h.ok x hx) (h.ok y hy)
theorem G5 {l:List Int} (h:Pm due L l) {a b n:Int} (ha:0<=a/\a+n<=l.length) (hb:0<=b/\b+n<=l.length) (hn:0<=n):So (bG (l,(a,(b,(n,due))))) (Pm due L):=by
 have hl:=h.len;unfold bG;refine So.loop (fun s=>0<=s.1/\s.1<=n/\s.2.length=l.length/\Pm due L s.2) (fun s=>(n-s.1).toNat) (fun s hs => ?_) ⟨by omega,by omega,rfl,h⟩;obtain ⟨i,v⟩:=s;obtain ⟨h1,h2,h3,h4⟩:=hs;simp only at h1 h2 h3 h4;refine So.dec (fun hi => ?_) fun _ => .out (.mk h4);have hi:i<n:=hi;simp only [aj (n:=a+i) (by omega),aj (n:=b+i) (by omega),aj (n:=i+1) (by omega)];have hA:(a+i).toNat<v.length:=by omega
 have hB:(b+i).toNat<v.length:=by omega
 refine So.is rfl (So.is rfl (So.is rfl (So.pos (by omega) (So.is (List.getElem?_eq_getElem hB) (So.is rfl (So.pos (by omega) (So.is (List.getElem?_eq_getElem hA) (So.pos (by omega) (So.is (List.getElem?_eq_getElem hA) (So.pos (by omega) (So.get (by rw [List.length_set];exact hB) fun _ _ _ => .inl ⟨⟨by simp only;omega,by simp only;omega,by simp only [List.length_set];exact h3,h4.swap hA hB⟩,by simp only;omega⟩)))))))))))
theorem ZV {l:List Int} (h:Pm due L l) {a b:Int} (ha:0<=a/\a<=100000) (hb:b<=l.length):So (bC (l,(a,(b,due)))) (Pm due L):=by
 have hl:=h.len;unfold bC;refine So.loop (fun s=>a<s.1/\s.2.length=l.length/\Pm due L s.2) (fun s=>(b-s.1).toNat) (fun s hs => ?_) ⟨by show a<IntKind.wrap .i64 (a+1);rw [aj (by omega)];omega,rfl,h⟩;obtain ⟨i,v⟩:=s;obtain ⟨h1,h3,h4⟩:=hs;simp only at h1 h3 h4;refine So.dec (fun hi => ?_) fun _ => .out (.mk h4);have hi:i<b:=hi;refine So.join (P:=fun p=>p.2.length=l.length/\Pm due L p.2) (So.loop (fun s=>a<=s.1/\s.1<=i/\s.2.length=l.length/\Pm due L s.2) (fun s=>s.1.toNat) (fun s hs => ?_) ⟨by simp only;omega,by simp only;omega,h3,h4⟩) fun p hp => ?_
 ·obtain ⟨j,w⟩:=s;obtain ⟨g1,g2,g3,g4⟩:=hs;simp only at g1 g2 g3 g4;refine So.dec (fun hj => ?_) fun _ => .out (.inl ⟨g3,g4⟩);have hj:j > a:=hj;simp only [aj (n:=j-1) (by omega)];have hA:j.toNat<w.length:=by omega
  have hB:(j-1).toNat<w.length:=by omega
  refine So.pos (by omega) (So.is (List.getElem?_eq_getElem hA) (So.is rfl (So.pos (by omega) (So.is (List.getElem?_eq_getElem hB) (So.pos trivial (So.bind (g4.cmp (List.getElem_mem _) (List.getElem_mem _)) fun _ _=>So.dec (fun _ => ?_) fun _ => .out (.inl ⟨g3,g4⟩)))))));refine So.is rfl (So.is rfl (So.pos (by omega) (So.is (List.getElem?_eq_getElem hB) (So.pos (by omega) (So.is (List.getElem?_eq_getElem hA) (So.pos (by omega) (So.is (List.getElem?_eq_getElem hA) (So.pos (by omega) (So.get (by rw [List.length_set];exact hB) fun _ _ _ => .inl ⟨⟨by simp only;omega,by simp only;omega,by simp only [List.length_set];exact g3,g4.swap hA hB⟩,by simp only;omega⟩)))))))))
 ·simp only [aj (n:=i+1) (by omega)];exact .inl ⟨⟨by simp only;omega,hp.1,hp.2⟩,by simp only;omega⟩
theorem agA {l:List Int} (h:Pm due L l) {a m b:Int} (ha:0<=a/\a<m) (hb:m<b/\b<=l.length):So (dU (l,(a,(m,(b,due))))) (Pm due L):=by
 have hl:=h.len;unfold dU;simp only [aj (n:=b-m) (by omega),aj (n:=m-a) (by omega)];refine So.join (P:=fun p=>0<p.1/\p.1<=m-a/\p.1<=b-m/\p.2.length=l.length/\Pm due L p.2) (So.loop (fun s=>0<s.1/\s.1<=b-m/\0<s.2.1/\s.2.1<=m-a/\s.2.2.length=l.length/\Pm due L s.2.2) (fun s=>(s.1+s.2.1).toNat) (fun s hs => ?_) ⟨by simp only;omega,by simp only;omega,by simp only;omega,by simp only;omega,rfl,h⟩) fun p hp => ?_
 ·obtain ⟨j,i,v⟩:=s;obtain ⟨h1,h2,h3,h4,h5,h6⟩:=hs;simp only at h1 h2 h3 h4 h5 h6;refine So.dec (fun hne=>So.dec (fun hgt => ?_) fun hgt => ?_) fun he => .out (.inl ⟨h3,h4,by have:¬i≠j:=he;simp only;omega,h5,h6⟩)
  ·have hgt:i > j:=hgt;simp only [aj (n:=m-i) (by omega),aj (n:=i-j) (by omega)];refine So.both h5.symm trivial (So.bind (G5 h6 (by omega) (by omega) (by omega)) fun w hw => .inl ⟨⟨h1,h2,by simp only;omega,by simp only;omega,hw.pm.length_eq.trans (h6.pm.length_eq.symm.trans h5),hw⟩,by simp only;omega⟩)
  ·have hgt:¬i > j:=hgt;have hne:i≠j:=hne;simp only [aj (n:=m-i) (by omega),aj (n:=m+j) (by omega),aj (n:=m+j-i) (by omega),aj (n:=j-i) (by omega)];refine So.both h5.symm trivial (So.bind (G5 h6 (by omega) (by omega) (by omega)) fun w hw => .inl ⟨⟨by simp only;omega,by simp only;omega,h3,h4,hw.pm.length_eq.trans (h6.pm.length_eq.symm.trans h5),hw⟩,by simp only;omega⟩)
 ·obtain ⟨i,v⟩:=p;obtain ⟨h1,h2,h3,h4,h5⟩:=hp;simp only at h1 h2 h3 h4 h5;simp only [aj (n:=m-i) (by omega)];exact So.both h4.symm trivial (So.bind (G5 h5 (by omega) (by omega) (by omega)) fun w hw => .mk hw)
theorem Pm.mv {l:List Int} (h:Pm due L l) {n:Nat} (hn:l.length=n) {i j:Int} (hi:0<=i/\i<(n:Int)) (hj:0<=j/\j<(n:Int)) {β:Type} {Q:β->Prop} {f:List Int->Option β} (hf:∀w,w.length=n->Pm due L w->So (f w) Q):So (bif decide (0<=j/\j<(n:Int)) then ah l[Int.toNat j]? fun x=>bif decide (0<=i/\i<(n:Int)) then ah l[Int.toNat i]? fun y=>bif decide (0<=i/\i<(n:Int)) then ah l[Int.toNat i]? fun _=>bif decide (0<=j/\j<(n:Int)) then ah (l.set i.toNat x)[Int.toNat j]? fun _=>f ((l.set i.toNat x).set j.toNat y) else none else none else none else none) Q:=by
 have hA:i.toNat<l.length:=by omega
 have hB:j.toNat<l.length:=by omega
 exact So.pos hj (So.is (List.getElem?_eq_getElem hB) (So.pos hi (So.is (List.getElem?_eq_getElem hA) (So.pos hi (So.is (List.getElem?_eq_getElem hA) (So.pos hj (So.get (by rw [List.length_set];exact hB) fun _ _ _=>hf _ (by simp only [List.length_set];exact hn) (h.swap hA hB))))))))
theorem QY:∀(k:Nat) {l:List Int} {a m b:Int},Pm due L l->0<=a->a<m->m<b->b<=l.length->b-a<=k->So (dw k (l,(a,(m,(b,due))))) (Pm due L)
 | 0,l,a,m,b,h,h1,h2,h3,h4,h5=>by omega
 | k+1,l,a,m,b,h,h1,h2,h3,h4,h5=>by
   have hl:=h.len;have ih:=@QY k;show So (dQ (dw k) (l,(a,(m,(b,due))))) _;generalize dw k=F at ih;unfold dQ;simp only [aj (n:=m-a) (by omega),aj (n:=b-m) (by omega),Oa (i:=a) (j:=b) (by omega) (by omega)];refine So.join (P:=fun _=>True) (So.dec (fun hm=>So.join (P:=fun v=>m<=v/\v<=b) (So.loop (fun s=>m<=s.2/\s.2<=s.1/\s.1<=b) (fun s=>(s.1-s.2).toNat) (fun s hs => ?_) ⟨by simp only;omega,by simp only;omega,by simp only;omega⟩) fun v hv=>So.loop (fun s=>a<=s.1/\s.2.length=l.length/\Pm due L s.2) (fun s=>(b-s.1).toNat) (fun s hs => ?_) ⟨by simp only;omega,rfl,h⟩) fun _ => .inl trivial) fun _ _ => ?_
   ·obtain ⟨hi,lo⟩:=s;obtain ⟨g1,g2,g3⟩:=hs;simp only at g1 g2 g3;refine So.dec (fun hlt=>So.is rfl ?_) fun _ => .out (.inl (by simp only;omega));have hlt:lo<hi:=hlt;have hA:((lo+hi) / 2).toNat<l.length:=by omega
    have hB:a.toNat<l.length:=by omega
    simp only [Oa (i:=lo) (j:=hi) (by omega) (by omega),aj (n:=(lo+hi) / 2+1) (by omega)];exact So.pos (by omega) (So.get hA fun x hx _=>So.pos (by omega) (So.get hB fun y hy _=>So.pos trivial (So.bind (h.cmp hx hy) fun _ _=>So.dec (fun _ => .inl ⟨by simp only;omega,by simp only;omega⟩) fun _ => .inl ⟨by simp only;omega,by simp only;omega⟩)))
   ·obtain ⟨i,w⟩:=s;obtain ⟨g1,g2,g3⟩:=hs;simp only at g1 g2 g3;simp only [aj (n:=v-1) (by omega)];refine So.dec (fun hlt => ?_) fun _ => .out (.out (.mk g3));have hlt:i<v-1:=hlt;simp only [aj (n:=i+1) (by omega)];exact So.is rfl (So.is rfl (g3.mv g2 (i:=i) (j:=i+1) (by omega) (by omega) fun w' q1 q2 => .inl ⟨⟨by simp only;omega,q1,q2⟩,by simp only;omega⟩))
   ·refine So.join (P:=fun _=>True) (So.dec (fun hm=>So.join (P:=fun v=>a<=v/\v<=m) (So.loop (fun s=>a<=s.2/\s.2<=s.1/\s.1<=m) (fun s=>(s.1-s.2).toNat) (fun s hs => ?_) ⟨by simp only;omega,by simp only;omega,by simp only;omega⟩) fun v hv=>So.loop (fun s=>s.1<=m/\v<=s.1/\s.2.length=l.length/\Pm due L s.2) (fun s=>s.1.toNat) (fun s hs => ?_) ⟨by simp only;omega,by simp only;omega,rfl,h⟩) fun _ => .inl trivial) fun _ _ => ?_
    ·obtain ⟨hi,lo⟩:=s;obtain ⟨g1,g2,g3⟩:=hs;simp only at g1 g2 g3;refine So.dec (fun hlt=>So.is rfl ?_) fun _ => .out (.inl (by simp only;omega));have hlt:lo<hi:=hlt;have hA:((lo+hi) / 2).toNat<l.length:=by omega
     have hB:m.toNat<l.length:=by omega
     simp only [Oa (i:=lo) (j:=hi) (by omega) (by omega),aj (n:=(lo+hi) / 2+1) (by omega)];exact So.pos (by omega) (So.get hB fun x hx _=>So.pos (by omega) (So.get hA fun y hy _=>So.pos trivial (So.bind (h.cmp hx hy) fun _ _=>So.if (fun _ => .inl ⟨by simp only;omega,by simp only;omega⟩) fun _ => .inl ⟨by simp only;omega,by simp only;omega⟩)))
    ·obtain ⟨i,w⟩:=s;obtain ⟨g1,g0,g2,g3⟩:=hs;simp only at g1 g0 g2 g3;refine So.dec (fun hlt => ?_) fun _ => .out (.out (.mk g3));have hlt:i > v:=hlt;simp only [aj (n:=i-1) (by omega)];exact So.is rfl (So.is rfl (g3.mv g2 (i:=i) (j:=i-1) (by omega) (by omega) fun w' q1 q2 => .inl ⟨⟨by simp only;omega,by simp only;omega,q1,q2⟩,by simp only;omega⟩))
    ·refine So.is rfl ?_;simp only [Oa (i:=a) (j:=b) (by omega) (by omega)];have hmid:a<(a+b) / 2/\(a+b) / 2<b:=by omega
     generalize hM:(a+b) / 2=M at *
     simp only [aj (n:=M+m) (by omega)];refine So.is rfl ?_;refine So.join (P:=fun p=>a<=p.2/\p.2<=p.1/\p.1<=m/\p.1<=M/\M+m-p.2<=b) (So.dec (fun hg => .inl ?_) fun hg => .inl ?_) fun p hp => ?_
     ·rw [aj (n:=M+m-b) (by omega)];simp only;omega
     ·simp only;omega
     ·obtain ⟨r,st⟩:=p;obtain ⟨p1,p2,p3,p4,p5⟩:=hp;simp only at p1 p2 p3 p4 p5;simp only [aj (n:=M+m-1) (by omega)];refine So.join (P:=fun v=>st<=v/\v<=r) (So.loop (fun s=>st<=s.2/\s.2<=s.1/\s.1<=r) (fun s=>(s.1-s.2).toNat) (fun s hs => ?_) ⟨by simp only;omega,by simp only;omega,by simp only;omega⟩) fun v hv => ?_
      ·obtain ⟨hi,lo⟩:=s;obtain ⟨g1,g2,g3⟩:=hs;simp only at g1 g2 g3;refine So.dec (fun hlt=>So.is rfl (So.is rfl ?_)) fun _ => .out (.inl (by simp only;omega));have hlt:lo<hi:=hlt;simp only [Oa (i:=lo) (j:=hi) (by omega) (by omega),aj (n:=(lo+hi) / 2+1) (by omega),aj (n:=M+m-1-(lo+hi) / 2) (by omega)];have hA:((lo+hi) / 2).toNat<l.length:=by omega
       have hB:(M+m-1-(lo+hi) / 2).toNat<l.length:=by omega
       exact So.pos (by omega) (So.get hB fun x hx _=>So.pos (by omega) (So.get hA fun y hy _=>So.pos trivial (So.bind (h.cmp hx hy) fun _ _=>So.if (fun _ => .inl ⟨by simp only;omega,by simp only;omega⟩) fun _ => .inl ⟨by simp only;omega,by simp only;omega⟩)))
      ·simp only [aj (n:=M+m-v) (by omega)];refine So.is rfl (So.join (P:=Pm due L) (So.dec (fun q1=>So.dec (fun q2=>So.both trivial trivial (So.bind (agA h ⟨by omega,q1⟩ ⟨q2,by omega⟩) fun w hw => .inl hw)) fun _ => .inl h) fun _ => .inl h) fun w hw => ?_);have hwl:l.length=w.length:=h.pm.length_eq.trans hw.pm.length_eq.symm;refine So.join (P:=Pm due L) (So.dec (fun q1=>So.dec (fun q2=>So.both hwl trivial (So.bind (ih hw (by omega) q1 q2 (by omega) (by omega)) fun w hw => .inl hw)) fun _ => .inl hw) fun _ => .inl hw) fun u hu => ?_;have hul:l.length=u.length:=h.pm.length_eq.trans hu.pm.length_eq.symm;exact So.dec (fun q1=>So.dec (fun q2=>So.both hul trivial (So.bind (ih hu (by omega) q1 q2 (by omega) (by omega)) fun w hw => .mk hw)) fun _ => .mk hu) fun _ => .mk hu
end
end Go.Proofs.YtigfeinnobfflaaGreat
