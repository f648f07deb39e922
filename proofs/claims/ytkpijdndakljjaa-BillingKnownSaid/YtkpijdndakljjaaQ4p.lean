import Derived.Test.YtkpijdndakljjaaU0p
import Derived.Test.YtkpijdndakljjaaXBp
import Derived.Test.YtkpijdndakljjaaZ2p
set_option linter.unusedSimpArgs false
set_option linter.unusedVariables false
set_option maxRecDepth 1000000
set_option maxHeartbeats 0
namespace Go.Proofs.Ytkpijdndakljjaa
open Go.RowKit
def plan123_cuTake:List (Nat×PL):=[]
noncomputable def cuTake:(Int×(LN×Bool))→Option (LN×(LN×Bool)):=fun (a1,(a2,a3)) =>
 bif a3 then
 some (([]:List Int),(a2,Bool.true))
 else
 bif (decide ((((List.length a2):Nat):Int)<a1)) then
 some (([]:List Int),(a2,Bool.true))
 else
 bif (decide (((0:Int)≤a1)∧(a1≤(((List.length a2):Nat):Int)))) then
 bif (decide (((0:Int)≤a1)∧(a1≤(((List.length a2):Nat):Int)))) then
 some ((List.take (Int.toNat a1) a2),((List.drop (Int.toNat a1) a2),a3))
 else none
 else none
noncomputable def cons123_cuTake:List (Nat×CE):=[]
theorem cons123_cuTake_ok:ConL Try.prog cons123_cuTake:=trivial
noncomputable def ce123_cuTake:CE:=⟨[.tmp 0 false [.pt 20000010 0],.tmp 1 false [.dat uI6],.mix 20000010 [.dat (.list uI8),.dat .bool]],[.tmp 0 false [dY],.mix 20000010 [dY,dO]],cuTake⟩
theorem con123_cuTake:ConOk Try.prog 123 ce123_cuTake :=
 conS_ok (tree_okS (plan:=planOf plan123_cuTake) (eg:=egNo) KK tabL_ok (conOf_ok cons123_cuTake_ok) Try.func123 (by kernel_rfl) (by kernel_rfl) 10000 (fun a r h=>Eq.trans (show _=cuTake a from by kernel_rfl) h)) (by rfl)
def plan92_cuNumber:List (Nat×PL):=[(134480385,(.carry [.tmp 3 false [(.dat (.int .u64))],.mix 20000010 [dY,dO]])),(18049651601311750,(.carry [.tmp 9 false [dI],.tmp 3 false [(.dat (.int .u64))]]))]
noncomputable def cuNumber:(LN×Bool)→Option (Int×(LN×Bool)):=fun (a1,a2) =>
 joinO (bindO (cuTake ((8:Int),(a1,a2))) fun (x4,(x5,x6)) =>
 loopO (fun (v7,v8) =>
 bif (decide (v7<(((List.length x4):Nat):Int))) then
 bif (decide (((0:Int)≤v7)∧(v7<(((List.length x4):Nat):Int)))) then
 bindO x4[(Int.toNat v7)]? fun x9 =>
 some (Sum.inl ((Go.IntKind.wrap .i64 (v7+(1:Int))),(Go.IntKind.wrap .u64 (((BitVec.toNat ((BitVec.ofInt 64 (Go.IntKind.wrap .u64 (v8*(256:Int)))) ||| (BitVec.ofInt 64 (Go.IntKind.wrap .u64 x9)))):Nat):Int))))
 else none
 else
 outO (some (Sum.inl (v8,(x5,x6))))) ((0:Int),(0:Int))) fun (v14,(v15,v16)) =>
 some (v14,(v15,v16))
noncomputable def cons92_cuNumber:List (Nat×CE):=[(123,ce123_cuTake)]
theorem cons92_cuNumber_ok:ConL Try.prog cons92_cuNumber:=⟨con123_cuTake,trivial⟩
noncomputable def ce92_cuNumber:CE:=⟨[.tmp 0 false [.pt 20000010 0],.mix 20000010 [.dat (.list uI8),.dat .bool]],[.tmp 0 false [(.dat (.int .u64))],.mix 20000010 [dY,dO]],cuNumber⟩
theorem con92_cuNumber:ConOk Try.prog 92 ce92_cuNumber :=
 conS_ok (tree_okS (plan:=planOf plan92_cuNumber) (eg:=egNo) KK tabL_ok (conOf_ok cons92_cuNumber_ok) Try.func92 (by kernel_rfl) (by kernel_rfl) 10000 (fun a r h=>Eq.trans (show _=cuNumber a from by kernel_rfl) h)) (by rfl)
def plan95_cuText:List (Nat×PL):=[(134480385,(.carry [.tmp 3 false [dI],.mix 20000010 [dY,dO]])),(18049651601311750,(.carry [.tmp 9 false [dI],.tmp 3 false [dI]]))]
noncomputable def cuText:(LN×Bool)→Option (LU×(LN×Bool)):=fun (a1,a2) =>
 joinO (bindO (cuTake ((2:Int),(a1,a2))) fun (x4,(x5,x6)) =>
 loopO (fun (v7,v8) =>
 bif (decide (v7<(((List.length x4):Nat):Int))) then
 bif (decide (((0:Int)≤v7)∧(v7<(((List.length x4):Nat):Int)))) then
 bindO x4[(Int.toNat v7)]? fun x9 =>
 some (Sum.inl ((Go.IntKind.wrap .i64 (v7+(1:Int))),(Go.IntKind.wrap .i64 (((BitVec.toNat ((BitVec.ofInt 64 (Go.IntKind.wrap .i64 (v8*(256:Int)))) ||| (BitVec.ofInt 64 (Go.IntKind.wrap .i64 x9)))):Nat):Int))))
 else none
 else
 outO (some (Sum.inl (v8,(x5,x6))))) ((0:Int),(0:Int))) fun (v14,(v15,v16)) =>
 bindO (cuTake (v14,(v15,v16))) fun (x18,(x19,x20)) =>
 some ((bytesU x18),(x19,x20))
noncomputable def cons95_cuText:List (Nat×CE):=[(123,ce123_cuTake)]
theorem cons95_cuText_ok:ConL Try.prog cons95_cuText:=⟨con123_cuTake,trivial⟩
noncomputable def ce95_cuText:CE:=⟨[.tmp 0 false [.pt 20000010 0],.mix 20000010 [.dat (.list uI8),.dat .bool]],[.tmp 0 false [dS],.mix 20000010 [dY,dO]],cuText⟩
theorem con95_cuText:ConOk Try.prog 95 ce95_cuText :=
 conS_ok (tree_okS (plan:=planOf plan95_cuText) (eg:=egNo) KK tabL_ok (conOf_ok cons95_cuText_ok) Try.func95 (by kernel_rfl) (by kernel_rfl) 10000 (fun a r h=>Eq.trans (show _=cuText a from by kernel_rfl) h)) (by rfl)
def plan93_cuEnded:List (Nat×PL):=[]
noncomputable def cuEnded:(LN×Bool)→Option Bool:=fun (a1,a2) =>
 bif (!a2) then
 some (decide ((((List.length a1):Nat):Int)=(0:Int)))
 else
 some Bool.false
noncomputable def cons93_cuEnded:List (Nat×CE):=[]
theorem cons93_cuEnded_ok:ConL Try.prog cons93_cuEnded:=trivial
noncomputable def ce93_cuEnded:CE:=⟨[.tmp 0 false [.pt 20000010 0],.mix 20000010 [.dat (.list uI8),.dat .bool]],[.tmp 0 false [dO]],cuEnded⟩
theorem con93_cuEnded:ConOk Try.prog 93 ce93_cuEnded :=
 conS_ok (tree_okS (plan:=planOf plan93_cuEnded) (eg:=egNo) KK tabL_ok (conOf_ok cons93_cuEnded_ok) Try.func93 (by kernel_rfl) (by kernel_rfl) 10000 (fun a r h=>Eq.trans (show _=cuEnded a from by kernel_rfl) h)) (by rfl)
def plan94_reGive:List (Nat×PL):=[]
noncomputable def reGive:(Int×((List (LU×(LU×(LU×(Int×(Int×(Int×(Int×(Int×(Int×Bool))))))))))×((List (LU×(LU×(LU×(Int×(Int×(Int×(Int×(Int×(Int×Bool))))))))))×(Int×Int))))→Option (Bool×(List (LU×(LU×(LU×(Int×(Int×(Int×(Int×(Int×(Int×Bool))))))))))):=fun (a1,(a2,(a3,(a4,a5)))) =>
 bif (decide (a1<(1:Int))) then
 some (Bool.false,a3)
 else
 bif (decide (a1 > (Go.IntKind.wrap .u64 (((List.length a3):Nat):Int)))) then
 some (Bool.false,a3)
 else
 bindO (some (Go.IntKind.wrap .u64 (a1-(1:Int)))) fun x7 =>
 bif (decide (((0:Int)≤x7)∧(x7<(((List.length a3):Nat):Int)))) then
 bindO a3[(Int.toNat x7)]? fun x8 =>
 bif x8.2.2.2.2.2.2.2.2.2 then
 some (Bool.false,a3)
 else
 bindO (some (Go.IntKind.wrap .u64 (a1-(1:Int)))) fun x9 =>
 bif (decide (((0:Int)≤x9)∧(x9<(((List.length a3):Nat):Int)))) then
 bindO a3[(Int.toNat x9)]? fun x10 =>
 some (Bool.true,(List.set a3 (Int.toNat x9) (x10.1,(x10.2.1,(x10.2.2.1,(x10.2.2.2.1,(x10.2.2.2.2.1,(x10.2.2.2.2.2.1,(x10.2.2.2.2.2.2.1,(x10.2.2.2.2.2.2.2.1,(x10.2.2.2.2.2.2.2.2.1,Bool.true)))))))))))
 else none
 else none
noncomputable def cons94_reGive:List (Nat×CE):=[]
theorem cons94_reGive_ok:ConL Try.prog cons94_reGive:=trivial
noncomputable def ce94_reGive:CE:=⟨[.tmp 0 false [.pt 20000020 0],.tmp 1 false [.dat (.int .u64)],.mix 20000020 [.own 20000021 29 UBl,.own 20000022 29 UBl,.dat uI6,.dat uI6]],[.tmp 0 false [dO],.row 20000022 29 (.pair .str (.pair .str (.pair .str (.pair uI6 (.pair uI6 (.pair uI6 (.pair uI6 (.pair uI6 (.pair uI6 .bool)))))))))],reGive⟩
theorem con94_reGive:ConOk Try.prog 94 ce94_reGive :=
 conS_ok (tree_okS (plan:=planOf plan94_reGive) (eg:=egNo) KK tabL_ok (conOf_ok cons94_reGive_ok) Try.func94 (by kernel_rfl) (by kernel_rfl) 10000 (fun a r h=>Eq.trans (show _=reGive a from by kernel_rfl) h)) (by rfl)
def plan96_reBegin:List (Nat×PL):=[(134480385,(.carry []))]
noncomputable def reBegin:(Int×(LU×(LU×(LU×((List (LU×(LU×(LU×(Int×(Int×(Int×(Int×(Int×(Int×Bool))))))))))×((List (LU×(LU×(LU×(Int×(Int×(Int×(Int×(Int×(Int×Bool))))))))))×(Int×Int)))))))→Option (Bool×((List (LU×(LU×(LU×(Int×(Int×(Int×(Int×(Int×(Int×Bool))))))))))×((List (LU×(LU×(LU×(Int×(Int×(Int×(Int×(Int×(Int×Bool))))))))))×(Int×Int)))):=fun (a1,(a2,(a3,(a4,(a5,(a6,(a7,a8))))))) =>
 bif (decide ((List.length a5)≤(List.length a5))) then
 bindO (billing_place ((List.take (List.length a5) a5),a2)) fun (x10,x11) =>
 joinO (bif x11 then
 outO (bif ((decide ((List.length a5)≤(List.length a5)))&&(decide ((List.length a6)≤(List.length a6)))) then
 some (Bool.false,((List.take (List.length a5) a5),((List.take (List.length a6) a6),(a7,a8))))
 else none)
 else
 bif (decide ((((List.length a5):Nat):Int)≥(256:Int))) then
 outO (bif ((decide ((List.length a5)≤(List.length a5)))&&(decide ((List.length a6)≤(List.length a6)))) then
 some (Bool.false,((List.take (List.length a5) a5),((List.take (List.length a6) a6),(a7,a8))))
 else none)
 else
 bindO (billing_within ((((List.length a2):Nat):Int),((1:Int),(200:Int)))) fun x12 =>
 bif (!x12) then
 outO (bif ((decide ((List.length a5)≤(List.length a5)))&&(decide ((List.length a6)≤(List.length a6)))) then
 some (Bool.false,((List.take (List.length a5) a5),((List.take (List.length a6) a6),(a7,a8))))
 else none)
 else
 bif (decide ((((List.length a3):Nat):Int) > (200:Int))) then
 outO (bif ((decide ((List.length a5)≤(List.length a5)))&&(decide ((List.length a6)≤(List.length a6)))) then
 some (Bool.false,((List.take (List.length a5) a5),((List.take (List.length a6) a6),(a7,a8))))
 else none)
 else
 bif (decide ((((List.length a4):Nat):Int) > (200:Int))) then
 outO (bif ((decide ((List.length a5)≤(List.length a5)))&&(decide ((List.length a6)≤(List.length a6)))) then
 some (Bool.false,((List.take (List.length a5) a5),((List.take (List.length a6) a6),(a7,a8))))
 else none)
 else
 some (Sum.inl ())) fun _ =>
 bindO (billing_begun (a1,(a2,(a3,a4)))) fun (x14,(x15,(x16,(x17,(x18,(x19,(x20,(x21,(x22,x23))))))))) =>
 bif ((decide ((List.length a5)=(List.length a5)))&&Bool.true) then
 bindO (insG (a5,(x10,((x14,(x15,(x16,(x17,(x18,(x19,(x20,(x21,(x22,x23)))))))))::([]:List (LU×(LU×(LU×(Int×(Int×(Int×(Int×(Int×(Int×Bool)))))))))))))) fun x24 =>
 bif ((decide ((List.length x24)≤(List.length x24)))&&(decide ((List.length a6)≤(List.length a6)))) then
 some (Bool.true,((List.take (List.length x24) x24),((List.take (List.length a6) a6),(a7,a8))))
 else none
 else none
 else none
noncomputable def cons96_reBegin:List (Nat×CE):=[(1000000046,ce_ins_con),(41,ce41),(79,ce79),(48,ce48)]
theorem cons96_reBegin_ok:ConL Try.prog cons96_reBegin:=⟨ins_con,con41,con79,con48,trivial⟩
noncomputable def ce96_reBegin:CE:=⟨[.tmp 0 false [.pt 20000020 0],.tmp 1 false [.dat uI6],.tmp 2 false [.dat .str],.tmp 3 false [.dat .str],.tmp 4 false [.dat .str],.mix 20000020 [.own 20000021 29 UBl,.own 20000022 29 UBl,.dat uI6,.dat uI6]],[.tmp 0 false [dO],.mix 20000020 [(.own 10000001 29 (.pair .str (.pair .str (.pair .str (.pair uI6 (.pair uI6 (.pair uI6 (.pair uI6 (.pair uI6 (.pair uI6 .bool)))))))))),(.own 10000002 29 (.pair .str (.pair .str (.pair .str (.pair uI6 (.pair uI6 (.pair uI6 (.pair uI6 (.pair uI6 (.pair uI6 .bool)))))))))),dI,dI],.dead 20000021,.dead 20000022],reBegin⟩
theorem con96_reBegin:ConOk Try.prog 96 ce96_reBegin :=
 conS_ok (tree_okS (plan:=planOf plan96_reBegin) (eg:=egNo) KK tabL_ok (conOf_ok cons96_reBegin_ok) Try.func96 (by kernel_rfl) (by kernel_rfl) 10000 (fun a r h=>Eq.trans (show _=reBegin a from by kernel_rfl) h)) (by rfl)
def plan97_reTouch:List (Nat×PL):=[]
noncomputable def reTouch:(Int×(Int×(LU×((List (LU×(LU×(LU×(Int×(Int×(Int×(Int×(Int×(Int×Bool))))))))))×((List (LU×(LU×(LU×(Int×(Int×(Int×(Int×(Int×(Int×Bool))))))))))×(Int×Int))))))→Option (Bool×(List (LU×(LU×(LU×(Int×(Int×(Int×(Int×(Int×(Int×Bool))))))))))):=fun (a1,(a2,(a3,(a4,(a5,(a6,a7)))))) =>
 bif (decide ((List.length a4)≤(List.length a4))) then
 bindO (billing_place ((List.take (List.length a4) a4),a3)) fun (x9,x10) =>
 bif (!x10) then
 some (Bool.false,a4)
 else
 bif (decide (((0:Int)≤x9)∧(x9<(((List.length a4):Nat):Int)))) then
 bindO a4[(Int.toNat x9)]? fun x11 =>
 bif (decide (a2<x11.2.2.2.2.2.1)) then
 some (Bool.false,a4)
 else
 bif (decide (a1=(2:Int))) then
 bif (decide (((0:Int)≤x9)∧(x9<(((List.length a4):Nat):Int)))) then
 bindO a4[(Int.toNat x9)]? fun x12 =>
 bif (decide (x12.2.2.2.2.1≠(-1:Int))) then
 some (Bool.false,a4)
 else
 bif (decide (((0:Int)≤x9)∧(x9<(((List.length a4):Nat):Int)))) then
 bindO a4[(Int.toNat x9)]? fun x13 =>
 bif (decide (((0:Int)≤x9)∧(x9<(((List.length a4):Nat):Int)))) then
 bindO (List.set a4 (Int.toNat x9) (x13.1,(x13.2.1,(x13.2.2.1,(x13.2.2.2.1,(a2,(x13.2.2.2.2.2.1,(x13.2.2.2.2.2.2.1,(x13.2.2.2.2.2.2.2.1,(x13.2.2.2.2.2.2.2.2.1,x13.2.2.2.2.2.2.2.2.2))))))))))[(Int.toNat x9)]? fun x14 =>
 some (Bool.true,(List.set (List.set a4 (Int.toNat x9) (x13.1,(x13.2.1,(x13.2.2.1,(x13.2.2.2.1,(a2,(x13.2.2.2.2.2.1,(x13.2.2.2.2.2.2.1,(x13.2.2.2.2.2.2.2.1,(x13.2.2.2.2.2.2.2.2.1,x13.2.2.2.2.2.2.2.2.2)))))))))) (Int.toNat x9) (x14.1,(x14.2.1,(x14.2.2.1,(x14.2.2.2.1,(x14.2.2.2.2.1,(a2,(x14.2.2.2.2.2.2.1,(x14.2.2.2.2.2.2.2.1,(x14.2.2.2.2.2.2.2.2.1,x14.2.2.2.2.2.2.2.2.2)))))))))))
 else none
 else none
 else none
 else
 bif (decide (((0:Int)≤x9)∧(x9<(((List.length a4):Nat):Int)))) then
 bindO a4[(Int.toNat x9)]? fun x15 =>
 some (Bool.true,(List.set a4 (Int.toNat x9) (x15.1,(x15.2.1,(x15.2.2.1,(x15.2.2.2.1,(x15.2.2.2.2.1,(a2,(x15.2.2.2.2.2.2.1,(x15.2.2.2.2.2.2.2.1,(x15.2.2.2.2.2.2.2.2.1,x15.2.2.2.2.2.2.2.2.2)))))))))))
 else none
 else none
 else none
noncomputable def cons97_reTouch:List (Nat×CE):=[(79,ce79)]
theorem cons97_reTouch_ok:ConL Try.prog cons97_reTouch:=⟨con79,trivial⟩
noncomputable def ce97_reTouch:CE:=⟨[.tmp 0 false [.pt 20000020 0],.tmp 1 false [.dat uI8],.tmp 2 false [.dat uI6],.tmp 3 false [.dat .str],.mix 20000020 [.own 20000021 29 UBl,.own 20000022 29 UBl,.dat uI6,.dat uI6]],[.tmp 0 false [dO],.row 20000021 29 (.pair .str (.pair .str (.pair .str (.pair uI6 (.pair uI6 (.pair uI6 (.pair uI6 (.pair uI6 (.pair uI6 .bool)))))))))],reTouch⟩
theorem con97_reTouch:ConOk Try.prog 97 ce97_reTouch :=
 conS_ok (tree_okS (plan:=planOf plan97_reTouch) (eg:=egNo) KK tabL_ok (conOf_ok cons97_reTouch_ok) Try.func97 (by kernel_rfl) (by kernel_rfl) 10000 (fun a r h=>Eq.trans (show _=reTouch a from by kernel_rfl) h)) (by rfl)
def plan98_reEnd:List (Nat×PL):=[(4731607904558101300225,(.carry [])),(18049651735527937,(.carry []))]
noncomputable def reEnd:(Int×(Int×(Int×(Int×(LU×((List (LU×(LU×(LU×(Int×(Int×(Int×(Int×(Int×(Int×Bool))))))))))×((List (LU×(LU×(LU×(Int×(Int×(Int×(Int×(Int×(Int×Bool))))))))))×(Int×Int))))))))→Option (Bool×((List (LU×(LU×(LU×(Int×(Int×(Int×(Int×(Int×(Int×Bool))))))))))×((List (LU×(LU×(LU×(Int×(Int×(Int×(Int×(Int×(Int×Bool))))))))))×(Int×Int)))):=fun (a1,(a2,(a3,(a4,(a5,(a6,(a7,(a8,a9)))))))) =>
 bif (decide ((List.length a6)≤(List.length a6))) then
 bindO (billing_place ((List.take (List.length a6) a6),a5)) fun (x11,x12) =>
 bif (!x12) then
 bif ((decide ((List.length a6)≤(List.length a6)))&&(decide ((List.length a7)≤(List.length a7)))) then
 some (Bool.false,((List.take (List.length a6) a6),((List.take (List.length a7) a7),(a8,a9))))
 else none
 else
 bif (decide (((0:Int)≤x11)∧(x11<(((List.length a6):Nat):Int)))) then
 bindO a6[(Int.toNat x11)]? fun x13 =>
 bif (decide (a1<x13.2.2.2.2.2.1)) then
 bif ((decide ((List.length a6)≤(List.length a6)))&&(decide ((List.length a7)≤(List.length a7)))) then
 some (Bool.false,((List.take (List.length a6) a6),((List.take (List.length a7) a7),(a8,a9))))
 else none
 else
 bif (decide (((0:Int)≤x11)∧(x11<(((List.length a6):Nat):Int)))) then
 bindO a6[(Int.toNat x11)]? fun x14 =>
 bif (decide (a2=(0:Int))) then
 joinO (bif (decide (a3≠(0:Int))) then
 outO (bif ((decide ((List.length a6)≤(List.length a6)))&&(decide ((List.length a7)≤(List.length a7)))) then
 some (Bool.false,((List.take (List.length a6) a6),((List.take (List.length a7) a7),(a8,a9))))
 else none)
 else
 bif (decide (a4≠(0:Int))) then
 outO (bif ((decide ((List.length a6)≤(List.length a6)))&&(decide ((List.length a7)≤(List.length a7)))) then
 some (Bool.false,((List.take (List.length a6) a6),((List.take (List.length a7) a7),(a8,a9))))
 else none)
 else
 bif (decide (x14.2.2.2.2.1≠(-1:Int))) then
 outO (bif ((decide ((List.length a6)≤(List.length a6)))&&(decide ((List.length a7)≤(List.length a7)))) then
 some (Bool.false,((List.take (List.length a6) a6),((List.take (List.length a7) a7),(a8,a9))))
 else none)
 else
 some (Sum.inl ())) fun _ =>
 bif (decide ((List.length a6)=(List.length a6))) then
 bindO (delG (a6,(x11,(Go.IntKind.wrap .i64 (x11+(1:Int)))))) fun x16 =>
 bif ((decide ((List.length x16)≤(List.length x16)))&&(decide ((List.length a7)≤(List.length a7)))) then
 some (Bool.true,((List.take (List.length x16) x16),((List.take (List.length a7) a7),(a8,a9))))
 else none
 else none
 else
 joinO (bif (decide (x14.2.2.2.2.1=(-1:Int))) then
 outO (bif ((decide ((List.length a6)≤(List.length a6)))&&(decide ((List.length a7)≤(List.length a7)))) then
 some (Bool.false,((List.take (List.length a6) a6),((List.take (List.length a7) a7),(a8,a9))))
 else none)
 else
 bif (decide (a2≠(Go.IntKind.wrap .u64 (Go.IntKind.wrap .i64 (a8+(1:Int)))))) then
 outO (bif ((decide ((List.length a6)≤(List.length a6)))&&(decide ((List.length a7)≤(List.length a7)))) then
 some (Bool.false,((List.take (List.length a6) a6),((List.take (List.length a7) a7),(a8,a9))))
 else none)
 else
 bif (decide (a2 > (1048576:Int))) then
 outO (bif ((decide ((List.length a6)≤(List.length a6)))&&(decide ((List.length a7)≤(List.length a7)))) then
 some (Bool.false,((List.take (List.length a6) a6),((List.take (List.length a7) a7),(a8,a9))))
 else none)
 else
 some (Sum.inl ())) fun _ =>
 bindO (rating_Seconds (x14.2.2.2.2.1,a1)) fun x19 =>
 bif (decide (a3≠(Go.IntKind.wrap .u64 x19))) then
 bif ((decide ((List.length a6)≤(List.length a6)))&&(decide ((List.length a7)≤(List.length a7)))) then
 some (Bool.false,((List.take (List.length a6) a6),((List.take (List.length a7) a7),(a8,a9))))
 else none
 else
 bif (decide ((Go.IntKind.wrap .i64 a4)<(0:Int))) then
 bif ((decide ((List.length a6)≤(List.length a6)))&&(decide ((List.length a7)≤(List.length a7)))) then
 some (Bool.false,((List.take (List.length a6) a6),((List.take (List.length a7) a7),(a8,a9))))
 else none
 else
 bindO (some (Go.IntKind.wrap .i64 (a8+(1:Int)))) fun x22 =>
 bif (decide ((List.length a6)=(List.length a6))) then
 bindO (delG (a6,(x11,(Go.IntKind.wrap .i64 (x11+(1:Int)))))) fun x24 =>
 bif (decide ((List.length a7)≤(List.length a7))) then
 bif (decide (((List.length ((List.take (List.length a7) a7)++((x14.1,(x14.2.1,(x14.2.2.1,(x14.2.2.2.1,(x14.2.2.2.2.1,(a1,(x22,(x19,((Go.IntKind.wrap .i64 a4),x14.2.2.2.2.2.2.2.2.2)))))))))::([]:List (LU×(LU×(LU×(Int×(Int×(Int×(Int×(Int×(Int×Bool)))))))))))))*104)≤140737488355328)) then
 bindO (some ((List.take (List.length a7) a7)++((x14.1,(x14.2.1,(x14.2.2.1,(x14.2.2.2.1,(x14.2.2.2.2.1,(a1,(x22,(x19,((Go.IntKind.wrap .i64 a4),x14.2.2.2.2.2.2.2.2.2)))))))))::([]:List (LU×(LU×(LU×(Int×(Int×(Int×(Int×(Int×(Int×Bool))))))))))))) fun x25 =>
 bif ((decide ((List.length x24)≤(List.length x24)))&&(decide ((List.length x25)≤(List.length x25)))) then
 some (Bool.true,((List.take (List.length x24) x24),((List.take (List.length x25) x25),(x22,a9))))
 else none
 else none
 else none
 else none
 else none
 else none
 else none
noncomputable def cons98_reEnd:List (Nat×CE):=[(76,ce76),(1000000088,ce_del_con),(79,ce79)]
theorem cons98_reEnd_ok:ConL Try.prog cons98_reEnd:=⟨con76,del_con,con79,trivial⟩
noncomputable def ce98_reEnd:CE:=⟨[.tmp 0 false [.pt 20000020 0],.tmp 1 false [.dat uI6],.tmp 2 false [.dat (.int .u64)],.tmp 3 false [.dat (.int .u64)],.tmp 4 false [.dat (.int .u64)],.tmp 5 false [.dat .str],.mix 20000020 [.own 20000021 29 UBl,.own 20000022 29 UBl,.dat uI6,.dat uI6]],[.tmp 0 false [dO],.mix 20000020 [(.own 10000001 29 (.pair .str (.pair .str (.pair .str (.pair uI6 (.pair uI6 (.pair uI6 (.pair uI6 (.pair uI6 (.pair uI6 .bool)))))))))),(.own 10000002 29 (.pair .str (.pair .str (.pair .str (.pair uI6 (.pair uI6 (.pair uI6 (.pair uI6 (.pair uI6 (.pair uI6 .bool)))))))))),dI,dI],.dead 20000022,.dead 20000021],reEnd⟩
theorem con98_reEnd:ConOk Try.prog 98 ce98_reEnd :=
 conS_ok (tree_okS (plan:=planOf plan98_reEnd) (eg:=egNo) KK tabL_ok (conOf_ok cons98_reEnd_ok) Try.func98 (by kernel_rfl) (by kernel_rfl) 10000 (fun a r h=>Eq.trans (show _=reEnd a from by kernel_rfl) h)) (by rfl)
def plan71_reApply:List (Nat×PL):=[(4731607904558235517441,(.carry [.tmp 8 false [dO],.mix 5 [dY,dO],.mix 20000020 [(.own 10000001 29 (.pair .str (.pair .str (.pair .str (.pair uI6 (.pair uI6 (.pair uI6 (.pair uI6 (.pair uI6 (.pair uI6 .bool)))))))))),(.own 10000002 29 (.pair .str (.pair .str (.pair .str (.pair uI6 (.pair uI6 (.pair uI6 (.pair uI6 (.pair uI6 (.pair uI6 .bool)))))))))),dI,dI],.dead 20000021,.dead 20000022])),(166478653092435647486938694421841409,(.carry [.tmp 63 false [dO]]))]
noncomputable def reApply:((Int×LN)×((List (LU×(LU×(LU×(Int×(Int×(Int×(Int×(Int×(Int×Bool))))))))))×((List (LU×(LU×(LU×(Int×(Int×(Int×(Int×(Int×(Int×Bool))))))))))×(Int×Int))))→Option (Bool×((List (LU×(LU×(LU×(Int×(Int×(Int×(Int×(Int×(Int×Bool))))))))))×((List (LU×(LU×(LU×(Int×(Int×(Int×(Int×(Int×(Int×Bool))))))))))×(Int×Int)))):=fun ((a1,a2),(a3,(a4,(a5,a6)))) =>
 bindO (cuNumber (a2,Bool.false)) fun (x8,(x9,x10)) =>
 bif (decide (a1=(5:Int))) then
 bindO (cuEnded (x9,x10)) fun x11 =>
 bif x11 then
 bif ((decide ((List.length a3)=(List.length a3)))&&(decide ((List.length a4)=(List.length a4)))) then
 bindO (reGive (x8,(a3,(a4,(a5,a6))))) fun (x13,x14) =>
 bif ((decide ((List.length a3)≤(List.length a3)))&&(decide ((List.length a4)≤(List.length x14)))) then
 some (x13,((List.take (List.length a3) a3),((List.take (List.length a4) x14),(a5,a6))))
 else none
 else none
 else
 bif ((decide ((List.length a3)≤(List.length a3)))&&(decide ((List.length a4)≤(List.length a4)))) then
 some (Bool.false,((List.take (List.length a3) a3),((List.take (List.length a4) a4),(a5,a6))))
 else none
 else
 bif x10 then
 bif ((decide ((List.length a3)≤(List.length a3)))&&(decide ((List.length a4)≤(List.length a4)))) then
 some (Bool.false,((List.take (List.length a3) a3),((List.take (List.length a4) a4),(a5,a6))))
 else none
 else
 bif (decide (x8 > (1099511627776:Int))) then
 bif ((decide ((List.length a3)≤(List.length a3)))&&(decide ((List.length a4)≤(List.length a4)))) then
 some (Bool.false,((List.take (List.length a3) a3),((List.take (List.length a4) a4),(a5,a6))))
 else none
 else
 joinO (bif (decide (a1=(1:Int))) then
 bindO (cuText (x9,x10)) fun (x17,(x18,x19)) =>
 bindO (cuText (x18,x19)) fun (x21,(x22,x23)) =>
 bindO (cuText (x22,x23)) fun (x25,(x26,x27)) =>
 bindO (cuEnded (x26,x27)) fun x28 =>
 bif x28 then
 bif ((decide ((List.length a3)=(List.length a3)))&&(decide ((List.length a4)=(List.length a4)))) then
 bindO (reBegin ((Go.IntKind.wrap .i64 x8),(x17,(x21,(x25,(a3,(a4,(a5,a6)))))))) fun (x30,(x31,(x32,(x33,x34)))) =>
 bif ((decide ((List.length x31)≤(List.length x31)))&&(decide ((List.length x32)≤(List.length x32)))) then
 some (Sum.inl (x30,((x26,x27),((List.take (List.length x31) x31),((List.take (List.length x32) x32),(x33,x34))))))
 else none
 else none
 else
 bif ((decide ((List.length a3)≤(List.length a3)))&&(decide ((List.length a4)≤(List.length a4)))) then
 some (Sum.inl (Bool.false,((x26,x27),((List.take (List.length a3) a3),((List.take (List.length a4) a4),(a5,a6))))))
 else none
 else
 joinO (bif (decide (a1=(2:Int))) then
 some (Sum.inl Bool.true)
 else
 some (Sum.inl (decide (a1=(3:Int))))) fun v35 =>
 bif v35 then
 bindO (cuText (x9,x10)) fun (x37,(x38,x39)) =>
 bindO (cuEnded (x38,x39)) fun x40 =>
 bif x40 then
 bif ((decide ((List.length a3)=(List.length a3)))&&(decide ((List.length a4)=(List.length a4)))) then
 bindO (reTouch (a1,((Go.IntKind.wrap .i64 x8),(x37,(a3,(a4,(a5,a6))))))) fun (x42,x43) =>
 bif ((decide ((List.length a3)≤(List.length x43)))&&(decide ((List.length a4)≤(List.length a4)))) then
 some (Sum.inl (x42,((x38,x39),((List.take (List.length a3) x43),((List.take (List.length a4) a4),(a5,a6))))))
 else none
 else none
 else
 bif ((decide ((List.length a3)≤(List.length a3)))&&(decide ((List.length a4)≤(List.length a4)))) then
 some (Sum.inl (Bool.false,((x38,x39),((List.take (List.length a3) a3),((List.take (List.length a4) a4),(a5,a6))))))
 else none
 else
 bif (decide (a1=(4:Int))) then
 bindO (cuNumber (x9,x10)) fun (x45,(x46,x47)) =>
 bindO (cuNumber (x46,x47)) fun (x49,(x50,x51)) =>
 bindO (cuNumber (x50,x51)) fun (x53,(x54,x55)) =>
 bindO (cuText (x54,x55)) fun (x57,(x58,x59)) =>
 bindO (cuEnded (x58,x59)) fun x60 =>
 bif x60 then
 bif ((decide ((List.length a3)=(List.length a3)))&&(decide ((List.length a4)=(List.length a4)))) then
 bindO (reEnd ((Go.IntKind.wrap .i64 x8),(x45,(x49,(x53,(x57,(a3,(a4,(a5,a6))))))))) fun (x62,(x63,(x64,(x65,x66)))) =>
 bif ((decide ((List.length x63)≤(List.length x63)))&&(decide ((List.length x64)≤(List.length x64)))) then
 some (Sum.inl (x62,((x58,x59),((List.take (List.length x63) x63),((List.take (List.length x64) x64),(x65,x66))))))
 else none
 else none
 else
 bif ((decide ((List.length a3)≤(List.length a3)))&&(decide ((List.length a4)≤(List.length a4)))) then
 some (Sum.inl (Bool.false,((x58,x59),((List.take (List.length a3) a3),((List.take (List.length a4) a4),(a5,a6))))))
 else none
 else
 bif ((decide ((List.length a3)≤(List.length a3)))&&(decide ((List.length a4)≤(List.length a4)))) then
 some (Sum.inl (Bool.false,((x9,x10),((List.take (List.length a3) a3),((List.take (List.length a4) a4),(a5,a6))))))
 else none) fun (v67,((v68,v69),(v70,(v71,(v72,v73))))) =>
 bif v67 then
 bif ((decide ((List.length v70)≤(List.length v70)))&&(decide ((List.length v71)≤(List.length v71)))) then
 some (v67,((List.take (List.length v70) v70),((List.take (List.length v71) v71),(v72,(maxA v73 (Go.IntKind.wrap .i64 x8))))))
 else none
 else
 bif ((decide ((List.length v70)≤(List.length v70)))&&(decide ((List.length v71)≤(List.length v71)))) then
 some (v67,((List.take (List.length v70) v70),((List.take (List.length v71) v71),(v72,v73))))
 else none
noncomputable def cons71_reApply:List (Nat×CE):=[(92,ce92_cuNumber),(95,ce95_cuText),(93,ce93_cuEnded),(94,ce94_reGive),(96,ce96_reBegin),(97,ce97_reTouch),(98,ce98_reEnd)]
theorem cons71_reApply_ok:ConL Try.prog cons71_reApply:=⟨con92_cuNumber,con95_cuText,con93_cuEnded,con94_reGive,con96_reBegin,con97_reTouch,con98_reEnd,trivial⟩
noncomputable def ce71_reApply:CE:=⟨[.tmp 0 false [.pt 20000020 0],.tmp 1 true [.dat uI8,.dat (.list uI8)],.mix 20000020 [.own 20000021 29 UBl,.own 20000022 29 UBl,.dat uI6,.dat uI6]],[.tmp 0 false [dO],.mix 20000020 [(.own 10000003 29 (.pair .str (.pair .str (.pair .str (.pair uI6 (.pair uI6 (.pair uI6 (.pair uI6 (.pair uI6 (.pair uI6 .bool)))))))))),(.own 10000004 29 (.pair .str (.pair .str (.pair .str (.pair uI6 (.pair uI6 (.pair uI6 (.pair uI6 (.pair uI6 (.pair uI6 .bool)))))))))),dI,dI],.dead 20000021,.dead 20000022],reApply⟩
theorem con71_reApply:ConOk Try.prog 71 ce71_reApply :=
 conS_ok (tree_okS (plan:=planOf plan71_reApply) (eg:=egNo) KK tabL_ok (conOf_ok cons71_reApply_ok) Try.func71 (by kernel_rfl) (by kernel_rfl) 10000 (fun a r h=>Eq.trans (show _=reApply a from by kernel_rfl) h)) (by rfl)
def plan29:List (Nat×PL):=[(35253226045953,(.carry [.mix 20 [(.own 10000003 29 (.pair .str (.pair .str (.pair .str (.pair uI6 (.pair uI6 (.pair uI6 (.pair uI6 (.pair uI6 (.pair uI6 .bool)))))))))),(.own 10000004 29 (.pair .str (.pair .str (.pair .str (.pair uI6 (.pair uI6 (.pair uI6 (.pair uI6 (.pair uI6 (.pair uI6 .bool)))))))))),dI,dI]])),(4731607904558101301254,(.carry [.tmp 34 false [dI],.mix 20 [(.own 10000001 29 (.pair .str (.pair .str (.pair .str (.pair uI6 (.pair uI6 (.pair uI6 (.pair uI6 (.pair uI6 (.pair uI6 .bool)))))))))),(.own 10000002 29 (.pair .str (.pair .str (.pair .str (.pair uI6 (.pair uI6 (.pair uI6 (.pair uI6 (.pair uI6 (.pair uI6 .bool)))))))))),dI,dI]])),(4731607904558235516954,(.carry [.tmp 0 false [(.own 10000005 29 (.pair .str (.pair .str (.pair .str (.pair uI6 (.pair uI6 (.pair uI6 (.pair uI6 (.pair uI6 (.pair uI6 .bool))))))))))]])),(635065662736647214774471623169,(.carry [.tmp 3 false [dI]])),(85237070383327051504557613662081386502,(.carry [.tmp 11 false [dI],.tmp 3 false [dI]])),(166478653092435647469839089184014849,(.carry [.tmp 6 false [(.own 10000007 29 (.pair .str (.pair .str (.pair .str (.pair uI6 (.pair uI6 (.pair uI6 (.pair uI6 (.pair uI6 (.pair uI6 .bool))))))))))],.dead 52])),(22344386578566886589610751075867846817089542,(.carry [.tmp 27 false [dI],.tmp 6 false [(.own 10000006 29 (.pair .str (.pair .str (.pair .str (.pair uI6 (.pair uI6 (.pair uI6 (.pair uI6 (.pair uI6 (.pair uI6 .bool))))))))))],.dead 52])),(4731607904558235517441,(.carry [.mix 45 [dY,dI,dI,(.dat (.list (.pair .str (.pair .str (.pair .str (.pair uI6 (.pair uI6 (.pair uI6 (.pair uI6 (.pair uI6 (.pair uI6 .bool))))))))))),dI,dI],.dead 10000005])),(635065662736647214839701440518,(.carry [.tmp 73 false [dI],.mix 45 [dY,dI,dI,(.dat (.list (.pair .str (.pair .str (.pair .str (.pair uI6 (.pair uI6 (.pair uI6 (.pair uI6 (.pair uI6 (.pair uI6 .bool))))))))))),dI,dI],.dead 10000005]))]
noncomputable def billing_Recover:(LN×(((List (LU×(Int×(Int×(Int×(List ((Int×(Int×Int))×(Int×Int))))))))×Int)×Int))→Option ((LN×(Int×(Int×((List (LU×(LU×(LU×(Int×(Int×(Int×(Int×(Int×(Int×Bool))))))))))×(Int×Int)))))×Int):=fun (a1,((a2,a3),a4)) =>
 bindO (rating_Valid (a2,a3)) fun x5 =>
 bif (!x5) then
 some ((([]:List Int),((0:Int),((0:Int),(([]:List (LU×(LU×(LU×(Int×(Int×(Int×(Int×(Int×(Int×Bool)))))))))),((0:Int),(0:Int)))))),(2:Int))
 else
 bindO (billing_within (a4,((0:Int),(1099511627776:Int)))) fun x6 =>
 bif (!x6) then
 some ((([]:List Int),((0:Int),((0:Int),(([]:List (LU×(LU×(LU×(Int×(Int×(Int×(Int×(Int×(Int×Bool)))))))))),((0:Int),(0:Int)))))),(2:Int))
 else
 bindO (journal_Recover a1) fun ((x8,(x9,x10)),x11) =>
 joinO (loopO (fun (v12,(v13,(v14,(v15,v16)))) =>
 bif (decide (v12<(((List.length x11):Nat):Int))) then
 bif (decide (((0:Int)≤v12)∧(v12<(((List.length x11):Nat):Int)))) then
 bindO x11[(Int.toNat v12)]? fun x17 =>
 bif ((decide ((List.length v13)=(List.length v13)))&&(decide ((List.length v14)=(List.length v14)))) then
 bindO (reApply ((x17.1,x17.2),(v13,(v14,(v15,v16))))) fun (x19,(x20,(x21,(x22,x23)))) =>
 bif (!x19) then
 outO (outO (some ((([]:List Int),((0:Int),((0:Int),(([]:List (LU×(LU×(LU×(Int×(Int×(Int×(Int×(Int×(Int×Bool)))))))))),((0:Int),(0:Int)))))),(5:Int))))
 else
 bif ((decide ((List.length x20)≤(List.length x20)))&&(decide ((List.length x21)≤(List.length x21)))) then
 some (Sum.inl ((Go.IntKind.wrap .i64 (v12+(1:Int))),((List.take (List.length x20) x20),((List.take (List.length x21) x21),(x22,x23)))))
 else none
 else none
 else none
 else
 outO (bif ((decide ((List.length v13)≤(List.length v13)))&&(decide ((List.length v14)≤(List.length v14)))) then
 some (Sum.inl ((List.take (List.length v13) v13),((List.take (List.length v14) v14),(v15,v16))))
 else none)) ((0:Int),(([]:List (LU×(LU×(LU×(Int×(Int×(Int×(Int×(Int×(Int×Bool)))))))))),(([]:List (LU×(LU×(LU×(Int×(Int×(Int×(Int×(Int×(Int×Bool)))))))))),((0:Int),(0:Int)))))) fun (v25,(v26,(v27,v28))) =>
 bif (decide (a4<v28)) then
 some ((([]:List Int),((0:Int),((0:Int),(([]:List (LU×(LU×(LU×(Int×(Int×(Int×(Int×(Int×(Int×Bool)))))))))),((0:Int),(0:Int)))))),(9:Int))
 else
 bif ((decide ((List.length v25)≤(List.length v25)))&&(decide ((List.length v26)≤(List.length v26)))) then
 joinO (joinO (loopO (fun (v29,v30) =>
 bif (decide (v29<(2:Int))) then
 bif (decide (((0:Int)≤v29)∧(v29<(2:Int)))) then
 bindO ((List.take (List.length v25) v25)::((List.take (List.length v26) v26)::([]:List (List (LU×(LU×(LU×(Int×(Int×(Int×(Int×(Int×(Int×Bool)))))))))))))[(Int.toNat v29)]? fun x31 =>
 bindO (some (Go.IntKind.wrap .i64 (v30+(((List.length x31):Nat):Int)))) fun x32 =>
 bif (decide (x32<(0:Int))) then
 none
 else
 some (Sum.inl ((Go.IntKind.wrap .i64 (v29+(1:Int))),x32))
 else none
 else
 outO (some (Sum.inl v30))) ((0:Int),(0:Int))) fun v34 =>
 bindO (growG v34) fun x35 =>
 joinO (bif (decide ((List.length x35)≤(List.length x35))) then
 loopO (fun (v36,v37) =>
 bif (decide (v36<(2:Int))) then
 bif (decide (((0:Int)≤v36)∧(v36<(2:Int)))) then
 bindO ((List.take (List.length v25) v25)::((List.take (List.length v26) v26)::([]:List (List (LU×(LU×(LU×(Int×(Int×(Int×(Int×(Int×(Int×Bool)))))))))))))[(Int.toNat v36)]? fun x38 =>
 bif (decide ((List.length v37)≤(List.length v37))) then
 bif (decide (((List.length ((List.take (List.length v37) v37)++x38))*104)≤140737488355328)) then
 bindO (some ((List.take (List.length v37) v37)++x38)) fun x39 =>
 bif (decide ((List.length x39)≤(List.length x39))) then
 some (Sum.inl ((Go.IntKind.wrap .i64 (v36+(1:Int))),(List.take (List.length x39) x39)))
 else none
 else none
 else none
 else none
 else
 outO (bif (decide ((List.length v37)≤(List.length v37))) then
 some (Sum.inl (List.take (List.length v37) v37))
 else none)) ((0:Int),(List.take (List.length x35) x35))
 else none) fun v41 =>
 bif (decide ((List.length v41)≤(List.length v41))) then
 some (Sum.inl (List.take (List.length v41) v41))
 else none) fun v42 =>
 joinO (bif (decide ((List.length v42)≤(List.length v42))) then
 loopO (fun (v43,(v44,(v45,(v46,(v47,(v48,v49)))))) =>
 bif (decide (v43<(((List.length v25):Nat):Int))) then
 bif (decide (((0:Int)≤(0:Int))∧((0:Int)<(((List.length v47):Nat):Int)))) then
 bindO v47[0]? fun x50 =>
 bindO (billing_finish ((v44,(v45,(v46,(v47,(v48,v49))))),((a2,a3),((0:Int),x50.2.2.2.2.2.1)))) fun ((x52,(x53,(x54,(x55,(x56,x57))))),x58) =>
 bif (decide (x58≠(0:Int))) then
 outO (outO (some ((([]:List Int),((0:Int),((0:Int),(([]:List (LU×(LU×(LU×(Int×(Int×(Int×(Int×(Int×(Int×Bool)))))))))),((0:Int),(0:Int)))))),x58)))
 else
 some (Sum.inl ((Go.IntKind.wrap .i64 (v43+(1:Int))),(x52,(x53,(x54,(x55,(x56,x57)))))))
 else none
 else
 outO (some (Sum.inl (v44,(v45,(v46,(v47,(v48,v49)))))))) ((0:Int),(x8,(x9,(x10,((List.take (List.length v42) v42),(v27,a4))))))
 else none) fun (v60,(v61,(v62,(v63,(v64,v65))))) =>
 some ((v60,(v61,(v62,(v63,(v64,v65))))),(0:Int))
 else none
noncomputable def cej70:CE:=⟨[(.tmp 0 false [dY])],[(.tmp 0 true [dY,dI,dI]),(.tmp 1 false [(.dat (.list (.pair uI8 (.list uI8))))])],journal_Recover⟩
noncomputable def ce_grow_con:CE:=⟨[.tmp 0 false [.nil],.tmp 1 false [.dat uI6]],[.tmp 0 false [.own 20000003 29 UBl]],growG⟩
noncomputable def cons29:List (Nat×CE):=[(61,ce61),(70,cej70),(99,ce_grow_con),(41,ce41),(62,ce62),(71,ce71_reApply)]
theorem cons29_ok:ConL Try.prog cons29:=⟨con61,conj70,grow_con,con41,con62,con71_reApply,trivial⟩
noncomputable def ce29:CE:=⟨[(.tmp 0 false [dY]),(.tmp 1 true [(.dat (.list (.pair .str (.pair uI6 (.pair uI6 (.pair uI6 (.list (.pair (.pair uI8 (.pair uI6 uI6)) (.pair uI6 uI6))))))))),dI]),(.tmp 2 false [dI])],[(.tmp 0 true [dY,dI,dI,(.dat (.list (.pair .str (.pair .str (.pair .str (.pair uI6 (.pair uI6 (.pair uI6 (.pair uI6 (.pair uI6 (.pair uI6 .bool))))))))))),dI,dI]),(.tmp 1 false [dE8])],billing_Recover⟩
theorem con29:ConOk Try.prog 29 ce29 :=
 tree_ok (plan:=planOf plan29) (eg:=egNo) KK tabL_ok (conOf_ok cons29_ok) Try.func29 (by kernel_rfl) (by kernel_rfl) 10000 (fun a r h=>Eq.trans (show _=billing_Recover a from by kernel_rfl) h)
end Go.Proofs.Ytkpijdndakljjaa

set_option maxRecDepth 1000000
set_option maxHeartbeats 0
namespace Go.Proofs.Ytkpijdndakljjaa
open Go.RowKit
def plan5:List (Nat×PL):=[(2422583247133816584929793,(.carry [.tmp 15 false [dO]])),(166478653092435647486973878391276033,(.carry [.tmp 22 false [dO]])),(5857446875251837918749797529164281065078962520577,(.carry [.tmp 31 false [dO]])),(54025411716560186203011787571640120958521400956323965206751657329153,(.carry [.tmp 44 false [dO]]))]
noncomputable def dialtonelaw38_BillingKnown:PUnit→Option Bool:=fun _ =>
 bindO (billing_Begin ((([]:List Int),((0:Int),((0:Int),(([]:List (LU×(LU×(LU×(Int×(Int×(Int×(Int×(Int×(Int×Bool)))))))))),((0:Int),(0:Int)))))),(((99:UInt8)::([]:List UInt8)),(([]:List UInt8),(((52:UInt8)::((57:UInt8)::([]:List UInt8))),((5:Int),((0:Int),((0:Int),((0:Int),((0:Int),((0:Int),Bool.false))))))))))) fun ((x2,(x3,(x4,(x5,(x6,x7))))),x8) =>
 bindO (billing_Begin ((x2,(x3,(x4,(x5,(x6,x7))))),(((99:UInt8)::([]:List UInt8)),(([]:List UInt8),(([]:List UInt8),((5:Int),((0:Int),((0:Int),((0:Int),((0:Int),((0:Int),Bool.false))))))))))) fun ((x10,(x11,(x12,(x13,(x14,x15))))),x16) =>
 bindO (billing_Begin ((x2,(x3,(x4,(x5,(x6,x7))))),(((100:UInt8)::([]:List UInt8)),(([]:List UInt8),(([]:List UInt8),((4:Int),((0:Int),((0:Int),((0:Int),((0:Int),((0:Int),Bool.false))))))))))) fun ((x18,(x19,(x20,(x21,(x22,x23))))),x24) =>
 bindO (billing_Begin ((x2,(x3,(x4,(x5,(x6,x7))))),(([]:List UInt8),(([]:List UInt8),(([]:List UInt8),((5:Int),((0:Int),((0:Int),((0:Int),((0:Int),((0:Int),Bool.false))))))))))) fun ((x26,(x27,(x28,(x29,(x30,x31))))),x32) =>
 bindO (billing_Answer ((x2,(x3,(x4,(x5,(x6,x7))))),(((120:UInt8)::([]:List UInt8)),(5:Int)))) fun ((x34,(x35,(x36,(x37,(x38,x39))))),x40) =>
 bindO (billing_Answer ((x2,(x3,(x4,(x5,(x6,x7))))),(((99:UInt8)::([]:List UInt8)),(7:Int)))) fun ((x42,(x43,(x44,(x45,(x46,x47))))),x48) =>
 bindO (billing_Answer ((x42,(x43,(x44,(x45,(x46,x47))))),(((99:UInt8)::([]:List UInt8)),(8:Int)))) fun ((x50,(x51,(x52,(x53,(x54,x55))))),x56) =>
 joinO (bif (decide (x8=(0:Int))) then
 bif (decide (x16=(7:Int))) then
 bif (decide (x24=(2:Int))) then
 bif (decide (x32=(2:Int))) then
 bif (decide (x40=(8:Int))) then
 bif (decide (x48=(0:Int))) then
 some (Sum.inl (decide (x56=(9:Int))))
 else
 some (Sum.inl Bool.false)
 else
 some (Sum.inl Bool.false)
 else
 some (Sum.inl Bool.false)
 else
 some (Sum.inl Bool.false)
 else
 some (Sum.inl Bool.false)
 else
 some (Sum.inl Bool.false)) fun v57 =>
 bindO (dialtonelaw38_tariff ()) fun (x59,x60) =>
 bindO (billing_End ((x2,(x3,(x4,(x5,(x6,x7))))),((x59,x60),(((99:UInt8)::([]:List UInt8)),(9:Int))))) fun ((x62,(x63,(x64,(x65,(x66,x67))))),x68) =>
 bindO (dialtonelaw38_tariff ()) fun (x70,x71) =>
 bindO (billing_End ((x42,(x43,(x44,(x45,(x46,x47))))),((x70,x71),(((99:UInt8)::([]:List UInt8)),(1008:Int))))) fun ((x73,(x74,(x75,(x76,(x77,x78))))),x79) =>
 bindO (billing_End ((x42,(x43,(x44,(x45,(x46,x47))))),((([]:List (LU×(Int×(Int×(Int×(List ((Int×(Int×Int))×(Int×Int)))))))),(-1:Int)),(((99:UInt8)::([]:List UInt8)),(9:Int))))) fun ((x81,(x82,(x83,(x84,(x85,x86))))),x87) =>
 joinO (bif (decide (x68=(0:Int))) then
 bif (decide ((((List.length x65):Nat):Int)=(0:Int))) then
 bif (decide (x66=(0:Int))) then
 bif (decide (x79=(0:Int))) then
 bif (decide ((((List.length x76):Nat):Int)=(1:Int))) then
 bif (decide (((0:Int)≤(0:Int))∧((0:Int)<(((List.length x76):Nat):Int)))) then
 bindO x76[0]? fun x88 =>
 bif (decide (x88.2.2.2.2.2.2.2.1=(2:Int))) then
 bif (decide (((0:Int)≤(0:Int))∧((0:Int)<(((List.length x76):Nat):Int)))) then
 bindO x76[0]? fun x89 =>
 bif (decide (x89.2.2.2.2.2.2.2.2.1=(2000:Int))) then
 bif (decide (x77=(1:Int))) then
 some (Sum.inl (decide (x87=(2:Int))))
 else
 some (Sum.inl Bool.false)
 else
 some (Sum.inl Bool.false)
 else none
 else
 some (Sum.inl Bool.false)
 else none
 else
 some (Sum.inl Bool.false)
 else
 some (Sum.inl Bool.false)
 else
 some (Sum.inl Bool.false)
 else
 some (Sum.inl Bool.false)
 else
 some (Sum.inl Bool.false)) fun v90 =>
 bindO (billing_Given ((x73,(x74,(x75,(x76,(x77,x78))))),(2:Int))) fun ((x92,(x93,(x94,(x95,(x96,x97))))),x98) =>
 bindO (billing_Given ((x73,(x74,(x75,(x76,(x77,x78))))),(1:Int))) fun ((x100,(x101,(x102,(x103,(x104,x105))))),x106) =>
 bindO (billing_Given ((x100,(x101,(x102,(x103,(x104,x105))))),(1:Int))) fun ((x108,(x109,(x110,(x111,(x112,x113))))),x114) =>
 bindO (billing_Sync (x100,(x101,(x102,(x103,(x104,x105)))))) fun (x116,(x117,(x118,(x119,(x120,x121))))) =>
 bindO (billing_Next (x116,(x117,(x118,(x119,(x120,x121)))))) fun ((x123,(x124,(x125,(x126,(x127,(x128,(x129,(x130,(x131,x132))))))))),x133) =>
 joinO (bif (decide (x98=(8:Int))) then
 bif (decide (x106=(0:Int))) then
 bif (decide (x114=(9:Int))) then
 bif (!x133) then
 bindO (billing_Valid (x100,(x101,(x102,(x103,(x104,x105)))))) fun x134 =>
 bif x134 then
 bindO (billing_Valid (([]:List Int),((0:Int),((0:Int),(([]:List (LU×(LU×(LU×(Int×(Int×(Int×(Int×(Int×(Int×Bool)))))))))),((-1:Int),(0:Int))))))) fun x135 =>
 bif (!x135) then
 bindO (billing_Sync (([]:List Int),((0:Int),((0:Int),(([]:List (LU×(LU×(LU×(Int×(Int×(Int×(Int×(Int×(Int×Bool)))))))))),((-1:Int),(0:Int))))))) fun (x137,(x138,(x139,(x140,(x141,x142))))) =>
 some (Sum.inl (decide ((((List.length x140):Nat):Int)=(0:Int))))
 else
 some (Sum.inl Bool.false)
 else
 some (Sum.inl Bool.false)
 else
 some (Sum.inl Bool.false)
 else
 some (Sum.inl Bool.false)
 else
 some (Sum.inl Bool.false)
 else
 some (Sum.inl Bool.false)) fun v143 =>
 bindO (dialtonelaw38_tariff ()) fun (x145,x146) =>
 bindO (billing_Recover (x42,((x145,x146),(100:Int)))) fun ((x148,(x149,(x150,(x151,(x152,x153))))),x154) =>
 bindO (dialtonelaw38_tariff ()) fun (x156,x157) =>
 bindO (billing_Recover (x42,((x156,x157),(6:Int)))) fun ((x159,(x160,(x161,(x162,(x163,x164))))),x165) =>
 bindO (dialtonelaw38_tariff ()) fun (x167,x168) =>
 bindO (billing_Recover (x42,((x167,x168),(-1:Int)))) fun ((x170,(x171,(x172,(x173,(x174,x175))))),x176) =>
 bindO (journal_Append ((([]:List Int),((0:Int),(0:Int))),((9:Int),([]:List Int)))) fun ((x178,(x179,x180)),x181) =>
 bindO (dialtonelaw38_tariff ()) fun (x183,x184) =>
 bindO (billing_Recover (x178,((x183,x184),(1:Int)))) fun ((x186,(x187,(x188,(x189,(x190,x191))))),x192) =>
 bindO (dialtonelaw38_tariff ()) fun (x194,x195) =>
 bindO (billing_Recover (([]:List Int),((x194,x195),(3:Int)))) fun ((x197,(x198,(x199,(x200,(x201,x202))))),x203) =>
 joinO (bif (decide (x154=(0:Int))) then
 bif (decide ((((List.length x151):Nat):Int)=(1:Int))) then
 bif (decide (((0:Int)≤(0:Int))∧((0:Int)<(((List.length x151):Nat):Int)))) then
 bindO x151[0]? fun x204 =>
 bif (decide (x204.2.2.2.2.2.1=(7:Int))) then
 bif (decide (((0:Int)≤(0:Int))∧((0:Int)<(((List.length x151):Nat):Int)))) then
 bindO x151[0]? fun x205 =>
 bif (decide (x205.2.2.2.2.2.2.2.1=(0:Int))) then
 bif (decide (x153=(100:Int))) then
 bif (decide (x165=(9:Int))) then
 bif (decide (x176=(2:Int))) then
 bif (decide (x192=(5:Int))) then
 bif (decide (x203=(0:Int))) then
 some (Sum.inl (decide (x202=(3:Int))))
 else
 some (Sum.inl Bool.false)
 else
 some (Sum.inl Bool.false)
 else
 some (Sum.inl Bool.false)
 else
 some (Sum.inl Bool.false)
 else
 some (Sum.inl Bool.false)
 else
 some (Sum.inl Bool.false)
 else none
 else
 some (Sum.inl Bool.false)
 else none
 else
 some (Sum.inl Bool.false)
 else
 some (Sum.inl Bool.false)) fun v206 =>
 bindO (dialtonelaw38_awake ()) fun x207 =>
 bif x207 then
 bif v57 then
 bif v90 then
 bif v143 then
 some v206
 else
 some Bool.false
 else
 some Bool.false
 else
 some Bool.false
 else
 some Bool.false
noncomputable def cons5:List (Nat×CE):=[(30,cej30),(12,ce12),(10,ce10),(15,ce15),(20,ce20),(24,ce24),(22,ce22),(26,ce26),(28,ce28),(9,ce9),(29,ce29)]
theorem cons5_ok:ConL Try.prog cons5:=⟨conj30,con12,con10,con15,con20,con24,con22,con26,con28,con9,con29,trivial⟩
noncomputable def ce5:CE:=⟨[],[(.tmp 0 false [dO])],dialtonelaw38_BillingKnown⟩
theorem con5:ConOk Try.prog 5 ce5 :=
 tree_ok (plan:=planOf plan5) (eg:=egNo) KK tabL_ok (conOf_ok cons5_ok) Try.func5 (by kernel_rfl) (by kernel_rfl) 10000 (fun a r h=>Eq.trans (show _=dialtonelaw38_BillingKnown a from by kernel_rfl) h)
end Go.Proofs.Ytkpijdndakljjaa

namespace Go.Proofs.Ytkpijdndakljjaa
open Go.RowKit
theorem get_bz {α β:Type} {l:List α} {v:Int} (d:α) (f:α→Option β) (h:0≤v∧v<(l.length:Int)):bindO l[Int.toNat v]? f=f (l.getD v.toNat d):=by rw [get_D' d (by omega)];rfl
theorem get_at {α:Type} {l:List α} {i:Nat} (d:α) (h:i<l.length):∃x,l.getD i d=x∧∀ {β:Type} (f:α→Option β),bindO l[Int.toNat (i:Int)]? f=f x:=⟨_,rfl,fun f=>get_bz d f (by omega)⟩
def Is (o:Option Bool) (P:Prop):Prop:=(P∧o=some true)∨(¬P∧o=some false)
theorem Is.t {P:Prop} (h:P):Is (some true) P := .inl ⟨h,rfl⟩
theorem Is.f {P:Prop} (h:¬P):Is (some false) P := .inr ⟨h,rfl⟩
theorem Is.d {P Q:Prop} [Decidable Q] (h:Q↔P):Is (some (decide Q)) P:=by
 by_cases k:Q
 ·exact .inl ⟨h.1 k,by rw [decide_eq_true k]⟩
 ·exact .inr ⟨fun p=>k (h.2 p),by rw [decide_eq_false k]⟩
theorem Is.eq {o o':Option Bool} {P:Prop} (h:Is o P) (k:Is o' P):o=o':=by
 rcases h with ⟨h,e⟩ | ⟨h,e⟩<;>rcases k with ⟨k,e'⟩ | ⟨k,e'⟩
 ·rw [e,e']
 ·exact (k h).elim
 ·exact (h k).elim
 ·rw [e,e']
theorem Is.iff {o:Option Bool} {P Q:Prop} (h:Is o P) (k:P↔Q):Is o Q:=by
 rcases h with ⟨h,e⟩ | ⟨h,e⟩
 ·exact .inl ⟨k.1 h,e⟩
 ·exact .inr ⟨fun q=>h (k.2 q),e⟩
theorem Is.some {o:Option Bool} {P:Prop} (h:Is o P):∃b,o=Option.some b:=by
 rcases h with ⟨_,e⟩ | ⟨_,e⟩<;>exact ⟨_,e⟩
theorem loop_all {β:Type} {body:Int→Option (Int ⊕ β)} (n:Nat) (ok:Nat→Prop) (r0 r1:β) (h1:∀i:Nat,i<n→ok i→body (i:Int)=some (.inl ((i+1:Nat):Int))) (h2:∀i:Nat,i<n→¬ok i→body (i:Int)=some (.inr r1)) (h3:body (n:Int)=some (.inr r0)) :
 ((∀i,i<n→ok i)∧loopO body (0:Int)=some r0)∨(¬(∀i,i<n→ok i)∧loopO body (0:Int)=some r1):=by
 have hs:=loopO_search (body:=body) (fun i=>(i:Int)) n (fun i=>¬ok i) (r0:=r0) (r1:=r1) (x:=0) rfl (fun i hi hb=>h1 i hi (Classical.not_not.1 hb)) h2 h3
 rcases hs with ⟨⟨i,hi,hb⟩,e⟩ | ⟨hn,e⟩
 ·exact .inr ⟨fun h=>hb (h i hi),e⟩
 ·exact .inl ⟨fun i hi=>Classical.byContradiction fun h=>hn ⟨i,hi,h⟩,e⟩
theorem loop_allI {υ β:Type} {body:υ→Option (υ ⊕ β)} (st:Nat→υ) (n:Nat) (ok:Nat→Prop) (r0 r1:β) {x:υ} (hx:st 0=x) (h1:∀i:Nat,i<n→(∀j,j<i→ok j)→ok i→body (st i)=some (.inl (st (i+1)))) (h2:∀i:Nat,i<n→(∀j,j<i→ok j)→¬ok i→body (st i)=some (.inr r1)) (h3:(∀j,j<n→ok j)→body (st n)=some (.inr r0)) :
 ((∀i,i<n→ok i)∧loopO body x=some r0)∨(¬(∀i,i<n→ok i)∧loopO body x=some r1):=by
 by_cases h:∃i,i<n∧¬ok i
 ·obtain ⟨i,⟨k1,k2⟩,k3⟩:=least h
  have k4:∀j,j<i→ok j:=fun j hj=>Classical.byContradiction fun hp=>k3 j hj ⟨by omega,hp⟩
  exact .inr ⟨fun g=>k2 (g i k1),loopO_from st i hx (fun j hj=>h1 j (by omega) (fun q hq=>k4 q (by omega)) (k4 j hj)) (h2 i k1 k4 k2)⟩
 ·have k4:∀j,j<n→ok j:=fun j hj=>Classical.byContradiction fun hp=>h ⟨j,hj,hp⟩
  exact .inl ⟨k4,loopO_from st n hx (fun j hj=>h1 j hj (fun q hq=>k4 q (by omega)) (k4 j hj)) (h3 k4)⟩
theorem loop_first {β:Type} {body:Int→Option (Int ⊕ β)} (n:Nat) (p:Nat→Prop) (g:Nat→β) (r0:β) (h1:∀i:Nat,i<n→¬p i→body (i:Int)=some (.inl ((i+1:Nat):Int))) (h2:∀i:Nat,i<n→p i→body (i:Int)=some (.inr (g i))) (h3:body (n:Int)=some (.inr r0)) :
 (∃i,i<n∧p i∧(∀j,j<i→¬p j)∧loopO body (0:Int)=some (g i))∨((∀i,i<n→¬p i)∧loopO body (0:Int)=some r0):=by
 by_cases h:∃i,i<n∧p i
 ·obtain ⟨i,⟨k1,k2⟩,k3⟩:=least h
  exact .inl ⟨i,k1,k2,fun j hj hp=>k3 j hj ⟨by omega,hp⟩,loopO_from (fun i=>(i:Int)) i rfl (fun j hj=>h1 j (by omega) fun hp=>k3 j hj ⟨by omega,hp⟩) (h2 i k1 k2)⟩
 ·exact .inr ⟨fun i hi hp=>h ⟨i,hi,hp⟩,loopO_from (fun i=>(i:Int)) n rfl (fun j hj=>h1 j hj fun hp=>h ⟨j,hj,hp⟩) h3⟩
theorem getD_take {α:Type} (l:List α) (d:α) {i k:Nat} (h:k<i):(l.take i).getD k d=l.getD k d:=by
 rw [List.getD_eq_getElem?_getD,List.getD_eq_getElem?_getD,List.getElem?_take,if_pos h]
theorem take_snoc {α:Type} (l:List α) (d:α) {i:Nat} (h:i<l.length):l.take (i+1)=l.take i++[l.getD i d]:=by
 rw [List.take_add_one,List.getElem?_eq_getElem h,getD_get d h];rfl
theorem SDl:(∀ {α β:Type} (a:α) (f:α→Option β),bindO (some a) f=f a)∧(∀ {α β:Type} (f:α→Option β),bindO none f=none)∧(∀ {α β:Type} (a:α) (f:α→Option β),joinO (some (.inl a)) f=f a)∧(∀ {α β:Type} (b:β) (f:α→Option β),joinO (some (.inr b)) f=some b)∧(∀ {α β:Type} (f:α→Option β),joinO none f=none)∧(∀ {α β:Type} (b:β),(outO (some b):Option (α ⊕ β))=some (.inr b))∧(∀ {α β:Type},(outO none:Option (α ⊕ β))=none)∧(∀ {α:Type} (a b:α),(bif true then a else b)=a)∧(∀ {α:Type} (a b:α),(bif false then a else b)=b)∧(∀ {α:Type} (p q:Bool) (a b:α),(bif (p&&q) then a else b)=bif p then (bif q then a else b) else b)∧(∀ {α:Type} (p q:Bool) (a b:α),(bif (p||q) then a else b)=bif p then a else (bif q then a else b))∧(∀ {α:Type} (p:Bool) (a b:α),(bif (!p) then a else b)=bif p then b else a)∧(∀ {α:Type} (p:Prop) [Decidable p] (a b:α),(bif decide p then a else b)=if p then a else b)∧(∀ {α:Type} (p:Prop) [Decidable p] (a b:α),p→(if p then a else b)=a)∧(∀ {α:Type} (p:Prop) [Decidable p] (a b:α),¬p→(if p then a else b)=b) :=
 ⟨bindO_some,bindO_none,joinO_inl,joinO_inr,joinO_none,outO_some,outO_none,fun _ _=>rfl,fun _ _=>rfl,cond_and,cond_or,cond_not,cond_ite,fun _ _ _ _ h=>if_pos h,fun _ _ _ _ h=>if_neg h⟩
theorem SDr:(∀ {α:Type} (l:List α),List.take l.length l=l)∧(∀n:Nat,(n≤n)=True)∧(!true)=false∧(!false)=true∧(∀ {α:Type} (a b:α),(if True then a else b)=a)∧(∀ {α:Type} (a b:α),(if False then a else b)=b) :=
 ⟨fun l=>List.take_length,fun n=>eq_true (Nat.le_refl n),rfl,rfl,fun _ _=>if_true ..,fun _ _=>if_false ..⟩
theorem LNl:(∀ {α:Type} (l:List α) (i:Nat) (a:α),(l.set i a).length=l.length)∧(∀ {α:Type} (l m:List α),(l++m).length=l.length+m.length)∧(∀ {α:Type} (a:α) (l:List α),(a::l).length=l.length+1)∧(∀ {α:Type},([]:List α).length=0)∧(∀ {α:Type} (l:List α),[]++l=l)∧(∀ {α:Type} (n:Nat) (l:List α),(l.take n).length=min n l.length)∧(∀ {α:Type} (n:Nat) (l:List α),(l.drop n).length=l.length-n) :=
 ⟨fun _ _ _=>List.length_set,fun _ _=>List.length_append,fun _ _=>rfl,rfl,fun _=>rfl,fun _ _=>List.length_take,fun _ _=>List.length_drop⟩
end Go.Proofs.Ytkpijdndakljjaa

set_option maxRecDepth 100000
namespace Go.Proofs.Ytkpijdndakljjaa.Rt
open Go.RowKit
theorem get_bz {α β:Type} {l:List α} {v:Int} (d:α) (f:α→Option β) (h:0≤v∧v<(l.length:Int)):bindO l[Int.toNat v]? f=f (l.getD v.toNat d):=by rw [get_D' d (by omega)];rfl
theorem get_at {α:Type} {l:List α} {i:Nat} (d:α) (h:i<l.length):∃x,l.getD i d=x∧∀ {β:Type} (f:α→Option β),bindO l[Int.toNat (i:Int)]? f=f x:=⟨_,rfl,fun f=>get_bz d f (by omega)⟩
def Is (o:Option Bool) (P:Prop):Prop:=(P∧o=some true)∨(¬P∧o=some false)
theorem Is.t {P:Prop} (h:P):Is (some true) P := .inl ⟨h,rfl⟩
theorem Is.f {P:Prop} (h:¬P):Is (some false) P := .inr ⟨h,rfl⟩
theorem Is.d {P Q:Prop} [Decidable Q] (h:Q↔P):Is (some (decide Q)) P:=by
 by_cases k:Q
 ·exact .inl ⟨h.1 k,by rw [decide_eq_true k]⟩
 ·exact .inr ⟨fun p=>k (h.2 p),by rw [decide_eq_false k]⟩
theorem Is.eq {o o':Option Bool} {P:Prop} (h:Is o P) (k:Is o' P):o=o':=by
 rcases h with ⟨h,e⟩ | ⟨h,e⟩<;>rcases k with ⟨k,e'⟩ | ⟨k,e'⟩
 ·rw [e,e']
 ·exact (k h).elim
 ·exact (h k).elim
 ·rw [e,e']
theorem Is.and {γ:Type} {k:γ→Option Bool} {P Q:Prop} (x:Option (γ ⊕ Bool)) (h:(P∧∃g,x=some (.inl g)∧Is (k g) Q)∨(¬P∧x=some (.inr false))):Is (joinO x k) (P∧Q):=by
 rcases h with ⟨h,g,e,hp⟩ | ⟨h,e⟩
 ·rw [e]
  show Is (k g) _
  rcases hp with ⟨q,e'⟩ | ⟨q,e'⟩
  ·exact .inl ⟨⟨h,q⟩,e'⟩
  ·exact .inr ⟨fun k=>q k.2,e'⟩
 ·rw [e]
  exact .inr ⟨fun q=>h q.1,rfl⟩
theorem within_b {β:Type} (a b c:Int) (f:Bool→Option β):bindO (rating_within (a,(b,c))) f=f (decide (b≤a∧a≤c)):=by
 have e:rating_within (a,(b,c))=bif decide (a≥b) then some (decide (a≤c)) else some false:=rfl
 rw [e,cond_ite]
 by_cases h:b≤a
 ·rw [if_pos (show a≥b from h)]
  simp [h,bindO_some]
 ·rw [if_neg (show ¬a≥b from h)]
  simp [h,bindO_some]
theorem money_b {β:Type} (a:Int) (f:Bool→Option β):bindO (dialtoneref37_money a) f=f (decide (0≤a∧a≤1000000000)):=by
 have e:dialtoneref37_money a=bif decide (a≥0) then some (decide (a≤1000000000)) else some false:=rfl
 rw [e,cond_ite]
 by_cases h:0≤a
 ·rw [if_pos (show a≥0 from h)]
  simp [h,bindO_some]
 ·rw [if_neg (show ¬a≥0 from h)]
  simp [h,bindO_some]
abbrev BdOk (d f t:Int):Prop:=(1≤d∧d≤127)∧0≤f∧f<t∧t≤1440
theorem bandP_j (d f t:Int):rating_validBand (d,(f,t))=some (decide (BdOk d f t)):=by
 unfold rating_validBand
 by_cases h1:1≤d<;>by_cases h2:d≤127<;>by_cases h3:0≤f<;>by_cases h4:f<t<;>simp [h1,h2,h3,h4,BdOk]
theorem bandR_j (d f t:Int):dialtoneref37_Band (d,(f,t))=some (decide (BdOk d f t)):=by
 unfold dialtoneref37_Band
 by_cases h1:1≤d<;>by_cases h2:d≤127<;>by_cases h3:0≤f<;>by_cases h4:f<t<;>simp [h1,h2,h3,h4,BdOk]
abbrev MnOk (a:Int):Prop:=0≤a∧a≤1000000000
abbrev Pok (p:Pr1):Prop:=BdOk p.1.1 p.1.2.1 p.1.2.2∧MnOk p.2.1∧MnOk p.2.2
theorem bandR_b {β:Type} (d f t:Int) (k:Bool→Option β):bindO (dialtoneref37_Band (d,(f,t))) k=k (decide (BdOk d f t)):=by rw [bandR_j];rfl
theorem priceP_b {β:Type} (p:Pr1) (k:Bool→Option β):bindO (rating_validPrice (p.1.1,(p.1.2.1,(p.1.2.2,(p.2.1,p.2.2))))) k=k (decide (Pok p)):=by
 obtain ⟨⟨d,f,t⟩,m,n⟩:=p
 have e:rating_validPrice (d,(f,(t,(m,n))))=some (decide (Pok ((d,(f,t)),(m,n)))):=by
  unfold rating_validPrice
  simp only [bandP_j,bindO_some]
  by_cases h:BdOk d f t<;>by_cases h1:0≤m<;>by_cases h2:m≤1000000000<;>by_cases h3:0≤n<;>simp [h,h1,h2,h3,Pok,MnOk]
 show bindO (rating_validPrice (d,(f,(t,(m,n))))) k=_
 rw [e];rfl
abbrev p0:Pr1:=((0,(0,0)),(0,0))
abbrev r0:Ra:=([],(0,(0,(0,[]))))
noncomputable def dgB (a1:List UInt8):Int→Option (Int ⊕ (Unit ⊕ Bool)) :=
(fun v8 =>
 bif (decide (v8<(((List.length a1):Nat):Int))) then
 bif (decide (((0:Int)≤v8)∧(v8<(((List.length a1):Nat):Int)))) then
 bif (decide ((((UInt8.toNat (List.getD a1 (Int.toNat v8) (0:UInt8))):Nat):Int)<(48:Int))) then
 outO (outO (some Bool.false))
 else
 bif (decide (((0:Int)≤v8)∧(v8<(((List.length a1):Nat):Int)))) then
 bif (decide ((((UInt8.toNat (List.getD a1 (Int.toNat v8) (0:UInt8))):Nat):Int) > (57:Int))) then
 outO (outO (some Bool.false))
 else
 some (Sum.inl (Go.IntKind.wrap .i64 (v8+(1:Int))))
 else none
 else none
 else
 outO (some (Sum.inl ())))
noncomputable def ppB (a5:List Pr1):Int→Option (Int ⊕ (Unit ⊕ Bool)) :=
(fun v10 =>
 bif (decide (v10<(((List.length a5):Nat):Int))) then
 bif (decide (((0:Int)≤v10)∧(v10<(((List.length a5):Nat):Int)))) then
 bindO a5[(Int.toNat v10)]? fun x11 =>
 bindO (rating_validPrice (x11.1.1,(x11.1.2.1,(x11.1.2.2,(x11.2.1,x11.2.2))))) fun x12 =>
 bif (!x12) then
 outO (outO (some Bool.false))
 else
 some (Sum.inl (Go.IntKind.wrap .i64 (v10+(1:Int))))
 else none
 else
 outO (some (Sum.inl ())))
noncomputable def prB (a5:List Pr1):Int→Option (Int ⊕ (Unit ⊕ Bool)) :=
(fun v9 =>
 bif (decide (v9<(((List.length a5):Nat):Int))) then
 bif (decide (((0:Int)≤v9)∧(v9<(((List.length a5):Nat):Int)))) then
 bindO a5[(Int.toNat v9)]? fun x10 =>
 bindO (dialtoneref37_Band (x10.1.1,(x10.1.2.1,x10.1.2.2))) fun x11 =>
 bif (!x11) then
 outO (outO (some Bool.false))
 else
 bindO (dialtoneref37_money x10.2.1) fun x12 =>
 bif (!x12) then
 outO (outO (some Bool.false))
 else
 bindO (dialtoneref37_money x10.2.2) fun x13 =>
 bif (!x13) then
 outO (outO (some Bool.false))
 else
 some (Sum.inl (Go.IntKind.wrap .i64 (v9+(1:Int))))
 else none
 else
 outO (some (Sum.inl ())))
theorem validRate_eq (a1:List UInt8) (a2 a3 a4:Int) (a5:List Pr1):rating_validRate (a1,(a2,(a3,(a4,a5)))) =
 joinO (bif (decide ((((List.length a1):Nat):Int) > (20:Int))) then
 outO (some Bool.false)
 else
 bif (decide (a2<(0:Int))) then
 outO (some Bool.false)
 else
 bif (decide (a2 > (1000000000:Int))) then
 outO (some Bool.false)
 else
 bindO (rating_within (a3,((1:Int),(3600:Int)))) fun x6 =>
 bif (!x6) then
 outO (some Bool.false)
 else
 bindO (rating_within (a4,((1:Int),(3600:Int)))) fun x7 =>
 bif (!x7) then
 outO (some Bool.false)
 else
 some (Sum.inl ())) fun _ =>
 joinO (loopO (dgB a1) (0:Int)) fun _ =>
 bif (decide ((((List.length a5):Nat):Int)<(1:Int))) then
  some Bool.false
 else
  bif (decide ((((List.length a5):Nat):Int) > (20:Int))) then
   some Bool.false
  else
   joinO (loopO (ppB a5) (0:Int)) fun _ =>
   bindO (some (Go.IntKind.wrap .i64 ((((List.length a5):Nat):Int)-(1:Int)))) fun x14 =>
   bif (decide (((0:Int)≤x14)∧(x14<(((List.length a5):Nat):Int)))) then
    bindO a5[(Int.toNat x14)]? fun x15 =>
    some ((decide (x15.1.1=(127:Int)))&&((decide (x15.1.2.1=(0:Int)))&&(decide (x15.1.2.2=(1440:Int)))))
   else none:=rfl
theorem rate_eq (a1:List UInt8) (a2 a3 a4:Int) (a5:List Pr1):dialtoneref37_Rate (a1,(a2,(a3,(a4,a5)))) =
 joinO (bif (decide ((((List.length a1):Nat):Int) > (20:Int))) then
 outO (some Bool.false)
 else
 bindO (dialtoneref37_money a2) fun x6 =>
 bif (!x6) then
 outO (some Bool.false)
 else
 bif (decide (a3<(1:Int))) then
 outO (some Bool.false)
 else
 bif (decide (a3 > (3600:Int))) then
 outO (some Bool.false)
 else
 bif (decide (a4<(1:Int))) then
 outO (some Bool.false)
 else
 bif (decide (a4 > (3600:Int))) then
 outO (some Bool.false)
 else
 some (Sum.inl ())) fun _ =>
 joinO (loopO (dgB a1) (0:Int)) fun _ =>
 bif (decide ((((List.length a5):Nat):Int)<(1:Int))) then
  some Bool.false
 else
  bif (decide ((((List.length a5):Nat):Int) > (20:Int))) then
   some Bool.false
  else
   joinO (loopO (prB a5) (0:Int)) fun _ =>
   bindO (some (Go.IntKind.wrap .i64 ((((List.length a5):Nat):Int)-(1:Int)))) fun x15 =>
   bif (decide (((0:Int)≤x15)∧(x15<(((List.length a5):Nat):Int)))) then
    bindO a5[(Int.toNat x15)]? fun x16 =>
    bif (decide (x16.1.1=(127:Int))) then
     bif (decide (x16.1.2.1=(0:Int))) then
      some (decide (x16.1.2.2=(1440:Int)))
     else
      some Bool.false
    else
     some Bool.false
   else none:=rfl
theorem loop_all {body:Int→Option (Int ⊕ (Unit ⊕ Bool))} (n:Nat) (ok:Nat→Prop) (h1:∀i:Nat,i<n→ok i→body (i:Int)=some (.inl ((i+1:Nat):Int))) (h2:∀i:Nat,i<n→¬ok i→body (i:Int)=some (.inr (.inr false))) (h3:body (n:Int)=some (.inr (.inl ()))) :
 ((∀i,i<n→ok i)∧loopO body (0:Int)=some (.inl ()))∨(¬(∀i,i<n→ok i)∧loopO body (0:Int)=some (.inr false)):=by
 have hs:=loopO_search (body:=body) (fun i=>(i:Int)) n (fun i=>¬ok i) (r0 := .inl ()) (r1 := .inr false) (x:=0) rfl (fun i hi hb=>h1 i hi (Classical.not_not.1 hb)) h2 h3
 rcases hs with ⟨⟨i,hi,hb⟩,e⟩ | ⟨hn,e⟩
 ·exact .inr ⟨fun h=>hb (h i hi),e⟩
 ·exact .inl ⟨fun i hi=>Classical.byContradiction fun h=>hn ⟨i,hi,h⟩,e⟩
abbrev DgC (c:UInt8):Prop:=48≤c.toNat∧c.toNat≤57
def Dg (s:List UInt8):Prop:=∀i,i<s.length→DgC (s.getD i 0)
theorem dg_loop (a1:List UInt8) (hl:a1.length≤1000):(Dg a1∧loopO (dgB a1) 0=some (.inl ()))∨(¬Dg a1∧loopO (dgB a1) 0=some (.inr false)):=by
 refine loop_all (body:=dgB a1) a1.length (fun i=>DgC (a1.getD i 0)) (fun i hi hb' => ?_) (fun i hi hb => ?_) ?_
 ·have hn:((i:Int)+1)=((i+1:Nat):Int):=rfl
  unfold dgB
  simp (disch:=(first | omega | (simp only [LNl];omega))) only [↓SDl,SDr,if_pos,if_neg,Int.toNat_natCast,wrap_i64',hn]
 ·unfold dgB
  by_cases h:(a1.getD i 0).toNat<48
  ·simp (disch:=(first | omega | (simp only [LNl];omega))) only [↓SDl,SDr,if_pos,if_neg,Int.toNat_natCast]
  ·have h2:(a1.getD i 0).toNat > 57:=by unfold DgC at hb;omega
   simp (disch:=(first | omega | (simp only [LNl];omega))) only [↓SDl,SDr,if_pos,if_neg,Int.toNat_natCast]
 ·unfold dgB
  simp (disch:=(first | omega | (simp only [LNl];omega))) only [↓SDl,SDr,if_pos,if_neg,Int.toNat_natCast]
def Pks (l:List Pr1):Prop:=∀i,i<l.length→Pok (l.getD i p0)
theorem pp_loop (l:List Pr1) (hl:l.length≤1000):(Pks l∧loopO (ppB l) 0=some (.inl ()))∨(¬Pks l∧loopO (ppB l) 0=some (.inr false)):=by
 refine loop_all (body:=ppB l) l.length (fun i=>Pok (l.getD i p0)) (fun i hi hb' => ?_) (fun i hi hb => ?_) ?_
 ·obtain ⟨x,hx,hxb⟩:=get_at p0 hi
  rw [hx] at hb'
  have hn:((i:Int)+1)=((i+1:Nat):Int):=rfl
  unfold ppB
  simp (disch:=(first | omega | (simp only [LNl];omega))) only [↓SDl,SDr,if_pos,if_neg,↓hxb,priceP_b,wrap_i64',hn,hb',decide_true]
 ·obtain ⟨x,hx,hxb⟩:=get_at p0 hi
  rw [hx] at hb
  unfold ppB
  simp (disch:=(first | omega | (simp only [LNl];omega))) only [↓SDl,SDr,if_pos,if_neg,↓hxb,priceP_b,hb,decide_false]
 ·unfold ppB
  simp (disch:=(first | omega | (simp only [LNl];omega))) only [↓SDl,SDr,if_pos,if_neg]
theorem pr_loop (l:List Pr1) (hl:l.length≤1000):(Pks l∧loopO (prB l) 0=some (.inl ()))∨(¬Pks l∧loopO (prB l) 0=some (.inr false)):=by
 refine loop_all (body:=prB l) l.length (fun i=>Pok (l.getD i p0)) (fun i hi hb' => ?_) (fun i hi hb => ?_) ?_
 ·obtain ⟨x,hx,hxb⟩:=get_at p0 hi
  rw [hx] at hb'
  have hn:((i:Int)+1)=((i+1:Nat):Int):=rfl
  unfold prB
  simp (disch:=(first | omega | (simp only [LNl];omega))) only [↓SDl,SDr,if_pos,if_neg,↓hxb,bandR_b,money_b,wrap_i64',hn,hb'.1,hb'.2.1,hb'.2.2,and_self,decide_true]
 ·obtain ⟨x,hx,hxb⟩:=get_at p0 hi
  rw [hx] at hb
  unfold prB
  by_cases h1:BdOk x.1.1 x.1.2.1 x.1.2.2
  ·by_cases h2:MnOk x.2.1
   ·have h3:¬MnOk x.2.2:=fun h=>hb ⟨h1,h2,h⟩
    simp (disch:=(first | omega | (simp only [LNl];omega))) only [↓SDl,SDr,if_pos,if_neg,↓hxb,bandR_b,money_b,h1,h2,h3,and_self,decide_true,decide_false]
   ·simp (disch:=(first | omega | (simp only [LNl];omega))) only [↓SDl,SDr,if_pos,if_neg,↓hxb,bandR_b,money_b,h1,h2,and_self,decide_true,decide_false]
  ·simp (disch:=(first | omega | (simp only [LNl];omega))) only [↓SDl,SDr,if_pos,if_neg,↓hxb,bandR_b,money_b,h1,decide_false]
 ·unfold prB
  simp (disch:=(first | omega | (simp only [LNl];omega))) only [↓SDl,SDr,if_pos,if_neg]
abbrev Lst (p:Pr1):Prop:=p.1.1=127∧p.1.2.1=0∧p.1.2.2=1440
abbrev RVa (a1:List UInt8) (a2 a3 a4:Int):Prop:=a1.length≤20∧MnOk a2∧(1≤a3∧a3≤3600)∧(1≤a4∧a4≤3600)
abbrev RVl (l:List Pr1):Prop:=(1≤l.length∧l.length≤20)∧Pks l∧Lst (l.getD (l.length-1) p0)
def RV (r:Ra):Prop:=RVa r.1 r.2.1 r.2.2.1 r.2.2.2.1∧Dg r.1∧RVl r.2.2.2.2
theorem validRate_j (a1:List UInt8) (a2 a3 a4:Int) (a5:List Pr1):Is (rating_validRate (a1,(a2,(a3,(a4,a5))))) (RV (a1,(a2,(a3,(a4,a5))))):=by
 rw [validRate_eq]
 refine Is.and _ ?_
 by_cases h:RVa a1 a2 a3 a4
 ·obtain ⟨h1,h2,h3,h4⟩:=h
  refine .inl ⟨⟨h1,h2,h3,h4⟩,(),?_,?_⟩
  ·simp (disch:=(first | omega | (simp only [LNl];omega))) only [↓SDl,SDr,if_pos,if_neg,within_b,h3,h4,and_self,decide_true]
  ·refine Is.and _ ?_
   rcases dg_loop a1 (by omega) with ⟨d,e⟩ | ⟨d,e⟩
   ·refine .inl ⟨d,(),e,?_⟩
    by_cases hl:1≤a5.length∧a5.length≤20
    ·simp (disch:=(first | omega | (simp only [LNl];omega))) only [↓SDl,SDr,if_pos,if_neg]
     rcases pp_loop a5 (by omega) with ⟨d,e⟩ | ⟨d,e⟩
     ·simp only [e,↓SDl,SDr]
      obtain ⟨x,hx,hxb⟩:=get_at p0 (show a5.length-1<a5.length by omega)
      have hi:((a5.length:Int)-1)=((a5.length-1:Nat):Int):=by omega
      simp (disch:=(first | omega | (simp only [LNl];omega))) only [↓SDl,SDr,wrap_i64',hi,if_pos,↓hxb,and_dec]
      refine Is.d ?_
      show _↔(_∧_∧Lst (a5.getD (a5.length-1) p0))
      rw [hx]
      exact ⟨fun k=>⟨hl,d,k⟩,fun k=>k.2.2⟩
     ·simp only [e,↓SDl,SDr]
      exact Is.f fun k=>d k.2.1
    ·have:Is (some false) (RVl a5):=Is.f fun k=>hl k.1
     rcases Nat.lt_or_ge a5.length 1 with k | k
     ·simp (disch:=(first | omega | (simp only [LNl];omega))) only [↓SDl,SDr,if_pos,if_neg];exact this
     ·simp (disch:=(first | omega | (simp only [LNl];omega))) only [↓SDl,SDr,if_pos,if_neg];exact this
   ·exact .inr ⟨d,e⟩
 ·refine .inr ⟨h,?_⟩
  by_cases h1:a1.length≤20
  ·by_cases h2:0≤a2
   ·by_cases h3:a2≤1000000000
    ·by_cases h4:1≤a3∧a3≤3600
     ·have h5:¬(1≤a4∧a4≤3600):=fun k=>h ⟨h1,⟨h2,h3⟩,h4,k⟩
      simp (disch:=(first | omega | (simp only [LNl];omega))) only [↓SDl,SDr,if_pos,if_neg,within_b,h4,h5,and_self,decide_true,decide_false]
     ·simp (disch:=(first | omega | (simp only [LNl];omega))) only [↓SDl,SDr,if_pos,if_neg,within_b,h4,decide_false]
    ·simp (disch:=(first | omega | (simp only [LNl];omega))) only [↓SDl,SDr,if_pos,if_neg]
   ·simp (disch:=(first | omega | (simp only [LNl];omega))) only [↓SDl,SDr,if_pos,if_neg]
  ·simp (disch:=(first | omega | (simp only [LNl];omega))) only [↓SDl,SDr,if_pos,if_neg]
theorem rateR_j (a1:List UInt8) (a2 a3 a4:Int) (a5:List Pr1):Is (dialtoneref37_Rate (a1,(a2,(a3,(a4,a5))))) (RV (a1,(a2,(a3,(a4,a5))))):=by
 rw [rate_eq]
 refine Is.and _ ?_
 by_cases h:RVa a1 a2 a3 a4
 ·obtain ⟨h1,h2,h3,h4⟩:=h
  refine .inl ⟨⟨h1,h2,h3,h4⟩,(),?_,?_⟩
  ·simp (disch:=(first | omega | (simp only [LNl];omega))) only [↓SDl,SDr,if_pos,if_neg,money_b,h2,and_self,decide_true]
  ·refine Is.and _ ?_
   rcases dg_loop a1 (by omega) with ⟨d,e⟩ | ⟨d,e⟩
   ·refine .inl ⟨d,(),e,?_⟩
    by_cases hl:1≤a5.length∧a5.length≤20
    ·simp (disch:=(first | omega | (simp only [LNl];omega))) only [↓SDl,SDr,if_pos,if_neg]
     rcases pr_loop a5 (by omega) with ⟨d,e⟩ | ⟨d,e⟩
     ·simp only [e,↓SDl,SDr]
      obtain ⟨x,hx,hxb⟩:=get_at p0 (show a5.length-1<a5.length by omega)
      have hi:((a5.length:Int)-1)=((a5.length-1:Nat):Int):=by omega
      simp (disch:=(first | omega | (simp only [LNl];omega))) only [↓SDl,SDr,wrap_i64',hi,if_pos,↓hxb]
      have key:Is (some (decide (Lst x))) (RVl a5):=by
       refine Is.d ?_
       show _↔(_∧_∧Lst (a5.getD (a5.length-1) p0))
       rw [hx]
       exact ⟨fun k=>⟨hl,d,k⟩,fun k=>k.2.2⟩
      by_cases k1:x.1.1=127
      ·by_cases k2:x.1.2.1=0
       ·simpa [k1,k2,Lst] using key
       ·simpa [k1,k2,Lst] using key
      ·simpa [k1,Lst] using key
     ·simp only [e,↓SDl,SDr]
      exact Is.f fun k=>d k.2.1
    ·have:Is (some false) (RVl a5):=Is.f fun k=>hl k.1
     rcases Nat.lt_or_ge a5.length 1 with k | k
     ·simp (disch:=(first | omega | (simp only [LNl];omega))) only [↓SDl,SDr,if_pos,if_neg];exact this
     ·simp (disch:=(first | omega | (simp only [LNl];omega))) only [↓SDl,SDr,if_pos,if_neg];exact this
   ·exact .inr ⟨d,e⟩
 ·refine .inr ⟨h,?_⟩
  by_cases h1:a1.length≤20
  ·by_cases h2:MnOk a2
   ·by_cases h3:1≤a3
    ·by_cases h4:a3≤3600
     ·by_cases h5:1≤a4
      ·have h6:¬a4≤3600:=fun k=>h ⟨h1,h2,⟨h3,h4⟩,⟨h5,k⟩⟩
       simp (disch:=(first | omega | (simp only [LNl];omega))) only [↓SDl,SDr,if_pos,if_neg,money_b,h2,and_self,decide_true]
      ·simp (disch:=(first | omega | (simp only [LNl];omega))) only [↓SDl,SDr,if_pos,if_neg,money_b,h2,and_self,decide_true]
     ·simp (disch:=(first | omega | (simp only [LNl];omega))) only [↓SDl,SDr,if_pos,if_neg,money_b,h2,and_self,decide_true]
    ·simp (disch:=(first | omega | (simp only [LNl];omega))) only [↓SDl,SDr,if_pos,if_neg,money_b,h2,and_self,decide_true]
   ·simp (disch:=(first | omega | (simp only [LNl];omega))) only [↓SDl,SDr,if_pos,if_neg,money_b,h2,decide_false]
  ·simp (disch:=(first | omega | (simp only [LNl];omega))) only [↓SDl,SDr,if_pos,if_neg]
theorem rate_same (a1:List UInt8) (a2 a3 a4:Int) (a5:List Pr1):dialtoneref37_Rate (a1,(a2,(a3,(a4,a5))))=rating_validRate (a1,(a2,(a3,(a4,a5)))):=(rateR_j a1 a2 a3 a4 a5).eq (validRate_j a1 a2 a3 a4 a5)
end Go.Proofs.Ytkpijdndakljjaa.Rt

set_option maxRecDepth 100000
namespace Go.Proofs.Ytkpijdndakljjaa.Rt
open Go.RowKit
noncomputable def vpB (a1:List Ra):(Int×List (List UInt8))→Option ((Int×List (List UInt8)) ⊕ (List (List UInt8) ⊕ Bool)) :=
(fun (v4,v5) =>
 bif (decide (v4<(((List.length a1):Nat):Int))) then
 bif (decide (((0:Int)≤v4)∧(v4<(((List.length a1):Nat):Int)))) then
 bindO a1[(Int.toNat v4)]? fun x6 =>
 bif (decide (Membership.mem v5 x6.1)) then
 outO (outO (some Bool.false))
 else
 bindO (rating_validRate (x6.1,(x6.2.1,(x6.2.2.1,(x6.2.2.2.1,x6.2.2.2.2))))) fun x7 =>
 bif (!x7) then
 outO (outO (some Bool.false))
 else
 some (Sum.inl ((Go.IntKind.wrap .i64 (v4+(1:Int))),(addK v5 x6.1)))
 else none
 else
 outO (some (Sum.inl v5)))
noncomputable def viB (a1:List Ra) (v3:Int):Int→Option (Int ⊕ (Int ⊕ (Int ⊕ (Unit ⊕ Bool)))) :=
(fun v6 =>
 bif (decide (v6<v3)) then
 bif (decide (((0:Int)≤v6)∧(v6<(((List.length a1):Nat):Int)))) then
 bindO a1[(Int.toNat v6)]? fun x7 =>
 bif (decide (((0:Int)≤v3)∧(v3<(((List.length a1):Nat):Int)))) then
 bindO a1[(Int.toNat v3)]? fun x8 =>
 bif (decide (x7.1=x8.1)) then
 outO (outO (outO (outO (some Bool.false))))
 else
 some (Sum.inl (Go.IntKind.wrap .i64 (v6+(1:Int))))
 else none
 else none
 else
 outO (some (Sum.inl v6)))
noncomputable def vrB (a1:List Ra):Int→Option (Int ⊕ (Unit ⊕ Bool)) :=
(fun v3 =>
 bif (decide (v3<(((List.length a1):Nat):Int))) then
 joinO (bif (decide (((0:Int)≤v3)∧(v3<(((List.length a1):Nat):Int)))) then
 bindO a1[(Int.toNat v3)]? fun x4 =>
 bindO (dialtoneref37_Rate (x4.1,(x4.2.1,(x4.2.2.1,(x4.2.2.2.1,x4.2.2.2.2))))) fun x5 =>
 bif (!x5) then
 outO (outO (outO (some Bool.false)))
 else
 loopO (viB a1 v3) (0:Int)
 else none) fun v10 =>
 some (Sum.inl (Go.IntKind.wrap .i64 (v3+(1:Int))))
 else
 outO (some (Sum.inl ())))
theorem validP_eq (a1:List Ra) (a2:Int):rating_Valid (a1,a2) =
 bif (decide ((((List.length a1):Nat):Int) > (1000:Int))) then
  some Bool.false
 else
  bindO (rating_within (a2,((0:Int),(3600:Int)))) fun x3 =>
  bif (!x3) then
   some Bool.false
  else
   joinO (loopO (vpB a1) ((0:Int),([]:List (List UInt8)))) fun v9 =>
   some Bool.true:=rfl
theorem validR_eq (a1:List Ra) (a2:Int):dialtoneref37_Valid (a1,a2) =
 joinO (bif (decide ((((List.length a1):Nat):Int) > (1000:Int))) then
 outO (some Bool.false)
 else
 bif (decide (a2<(0:Int))) then
 outO (some Bool.false)
 else
 bif (decide (a2 > (3600:Int))) then
 outO (some Bool.false)
 else
 some (Sum.inl ())) fun _ =>
 joinO (loopO (vrB a1) (0:Int)) fun _ =>
 some Bool.true:=rfl
noncomputable def fpB (a1:List Ra) (a3:List UInt8):(Int×Int)→Option ((Int×Int) ⊕ (Int ⊕ (Int×Bool))) :=
(fun (v5,v6) =>
 bif (decide (v5<(((List.length a1):Nat):Int))) then
 bif (decide (((0:Int)≤v5)∧(v5<(((List.length a1):Nat):Int)))) then
 bindO a1[(Int.toNat v5)]? fun x7 =>
 bindO (strings_HasPrefix (a3,x7.1)) fun x8 =>
 bif x8 then
 bif (decide (v6<(0:Int))) then
 some (Sum.inl ((Go.IntKind.wrap .i64 (v5+(1:Int))),v5))
 else
 bif (decide (((0:Int)≤v6)∧(v6<(((List.length a1):Nat):Int)))) then
 bindO a1[(Int.toNat v6)]? fun x10 =>
 bif (decide ((((List.length x7.1):Nat):Int) > (((List.length x10.1):Nat):Int))) then
 some (Sum.inl ((Go.IntKind.wrap .i64 (v5+(1:Int))),v5))
 else
 some (Sum.inl ((Go.IntKind.wrap .i64 (v5+(1:Int))),v6))
 else none
 else
 some (Sum.inl ((Go.IntKind.wrap .i64 (v5+(1:Int))),v6))
 else none
 else
 outO (some (Sum.inl v6)))
noncomputable def fiB (a1:List Ra) (a3:List UInt8) (v5:Int):Int→Option (Int ⊕ (Int ⊕ (Int ⊕ (Unit ⊕ (Int×Bool))))) :=
(fun v6 =>
 bif (decide (v6<(((List.length a1):Nat):Int))) then
 bif (decide (((0:Int)≤v6)∧(v6<(((List.length a1):Nat):Int)))) then
 bindO a1[(Int.toNat v6)]? fun x7 =>
 bif (decide ((((List.length x7.1):Nat):Int)=v5)) then
 bif (decide (((0:Int)≤v6)∧(v6<(((List.length a1):Nat):Int)))) then
 bindO a1[(Int.toNat v6)]? fun x8 =>
 bindO (dialtoneref37_Begins (a3,x8.1)) fun x9 =>
 bif x9 then
 outO (outO (outO (outO (some (v6,Bool.true)))))
 else
 some (Sum.inl (Go.IntKind.wrap .i64 (v6+(1:Int))))
 else none
 else
 some (Sum.inl (Go.IntKind.wrap .i64 (v6+(1:Int))))
 else none
 else
 outO (some (Sum.inl v6)))
noncomputable def frB (a1:List Ra) (a3:List UInt8):Int→Option (Int ⊕ (Unit ⊕ (Int×Bool))) :=
(fun v5 =>
 bif (decide (v5≥(0:Int))) then
 joinO (loopO (fiB a1 a3 v5) (0:Int)) fun v12 =>
 some (Sum.inl (Go.IntKind.wrap .i64 (v5-(1:Int))))
 else
 outO (some (Sum.inl ())))
theorem findP_eq (a1:List Ra) (a2:Int) (a3:List UInt8):rating_Find ((a1,a2),a3) =
 bindO (rating_Valid (a1,a2)) fun x4 =>
 bif (!x4) then
  some ((0:Int),Bool.false)
 else
  joinO (loopO (fpB a1 a3) ((0:Int),(-1:Int))) fun v14 =>
  bif (decide (v14<(0:Int))) then
   some ((0:Int),Bool.false)
  else
   some (v14,Bool.true):=rfl
theorem findR_eq (a1:List Ra) (a2:Int) (a3:List UInt8):dialtoneref37_Find ((a1,a2),a3) =
 bindO (dialtoneref37_Valid (a1,a2)) fun x4 =>
 bif (!x4) then
  some ((0:Int),Bool.false)
 else
  joinO (loopO (frB a1 a3) (20:Int)) fun _ =>
  some ((0:Int),Bool.false):=rfl
theorem loop_first {β:Type} {body:Int→Option (Int ⊕ β)} (n:Nat) (p:Nat→Prop) (g:Nat→β) (r0:β) (h1:∀i:Nat,i<n→¬p i→body (i:Int)=some (.inl ((i+1:Nat):Int))) (h2:∀i:Nat,i<n→p i→body (i:Int)=some (.inr (g i))) (h3:body (n:Int)=some (.inr r0)) :
 (∃i,i<n∧p i∧(∀j,j<i→¬p j)∧loopO body (0:Int)=some (g i))∨((∀i,i<n→¬p i)∧loopO body (0:Int)=some r0):=by
 by_cases h:∃i,i<n∧p i
 ·obtain ⟨i,⟨k1,k2⟩,k3⟩:=least h
  exact .inl ⟨i,k1,k2,fun j hj hp=>k3 j hj ⟨by omega,hp⟩,loopO_from (fun i=>(i:Int)) i rfl (fun j hj=>h1 j (by omega) fun hp=>k3 j hj ⟨by omega,hp⟩) (h2 i k1 k2)⟩
 ·exact .inr ⟨fun i hi hp=>h ⟨i,hi,hp⟩,loopO_from (fun i=>(i:Int)) n rfl (fun j hj=>h1 j hj fun hp=>h ⟨j,hj,hp⟩) h3⟩
theorem mem_addK {ks:List (List UInt8)} {k u:List UInt8}:u∈addK ks k↔u=k∨u∈ks:=by
 unfold addK
 by_cases h:k∈ks
 ·rw [if_pos h]
  exact ⟨.inr,fun h'=>h'.elim (fun e=>by rw [e];exact h) id⟩
 ·rw [if_neg h]
  simp [or_comm]
theorem Is.iff {o:Option Bool} {P Q:Prop} (h:Is o P) (k:P↔Q):Is o Q:=by
 rcases h with ⟨h,e⟩ | ⟨h,e⟩
 ·exact .inl ⟨k.1 h,e⟩
 ·exact .inr ⟨fun q=>h (k.2 q),e⟩
theorem rate_b {β:Type} (x:Ra) {P:Prop} (f:Bool→Option β) (h:RV x):bindO (rating_validRate (x.1,(x.2.1,(x.2.2.1,(x.2.2.2.1,x.2.2.2.2))))) f=f true:=by
 rcases validRate_j x.1 x.2.1 x.2.2.1 x.2.2.2.1 x.2.2.2.2 with ⟨_,e⟩ | ⟨k,e⟩
 ·rw [e];rfl
 ·exact (k h).elim
theorem rate_bf {β:Type} (x:Ra) (f:Bool→Option β) (h:¬RV x):bindO (rating_validRate (x.1,(x.2.1,(x.2.2.1,(x.2.2.2.1,x.2.2.2.2))))) f=f false:=by
 rcases validRate_j x.1 x.2.1 x.2.2.1 x.2.2.2.1 x.2.2.2.2 with ⟨k,e⟩ | ⟨_,e⟩
 ·exact (h k).elim
 ·rw [e];rfl
def ks (l:List Ra):Nat→List (List UInt8)
 | 0=>[]
 | k+1=>addK (ks l k) (l.getD k r0).1
theorem mem_ks {l:List Ra} {u:List UInt8}:∀ {k:Nat},u∈ks l k↔∃i,i<k∧(l.getD i r0).1=u
 | 0=>by simp [ks]
 | k+1=>by
   rw [ks,mem_addK,mem_ks]
   constructor
   ·rintro (h | ⟨i,h1,h2⟩)
    ·exact ⟨k,by omega,h.symm⟩
    ·exact ⟨i,by omega,h2⟩
   ·rintro ⟨i,h1,h2⟩
    by_cases e:i=k
    ·subst e;exact .inl h2.symm
    ·exact .inr ⟨i,by omega,h2⟩
def Rok (l:List Ra) (i:Nat):Prop:=RV (l.getD i r0)∧∀k,k<i→(l.getD k r0).1≠(l.getD i r0).1
def TV (l:List Ra) (f:Int):Prop:=(l.length≤1000∧(0≤f∧f≤3600))∧∀i,i<l.length→Rok l i
theorem vp_loop (l:List Ra) (hl:l.length≤1000):((∀i,i<l.length→Rok l i)∧∃v,loopO (vpB l) ((0:Int),[])=some (.inl v))∨(¬(∀i,i<l.length→Rok l i)∧loopO (vpB l) ((0:Int),[])=some (.inr false)):=by
 have hs:=loopO_search (body:=vpB l) (fun i=>((i:Int),ks l i)) l.length (fun i=>¬Rok l i) (r0 := .inl (ks l l.length)) (r1 := .inr false) (x:=((0:Int),[])) rfl
  (fun i hi hb=>by
    obtain ⟨h1,h2⟩:=Classical.not_not.1 hb
    obtain ⟨x,hx,hxb⟩:=get_at r0 hi
    have hm:¬x.1∈ks l i:=fun h=>by
     obtain ⟨k,k1,k2⟩:=mem_ks.1 h
     exact h2 k k1 (by rw [hx];exact k2)
    rw [hx] at h1
    have hn:((i:Int)+1)=((i+1:Nat):Int):=rfl
    have hk:ks l (i+1)=addK (ks l i) x.1:=by rw [ks,hx]
    unfold vpB
    simp (disch:=(first | omega | (simp only [LNl];omega))) only [↓SDl,SDr,if_pos,if_neg,↓hxb,hm,rate_b x (P:=True) _ h1,wrap_i64',hn,hk,decide_false])
  (fun i hi hb=>by
    obtain ⟨x,hx,hxb⟩:=get_at r0 hi
    unfold vpB
    by_cases hm:x.1∈ks l i
    ·simp (disch:=(first | omega | (simp only [LNl];omega))) only [↓SDl,SDr,if_pos,if_neg,↓hxb,hm,decide_true]
    ·have h1:¬RV x:=fun h=>hb ⟨by rw [hx];exact h,fun k hk e=>hm (mem_ks.2 ⟨k,hk,by rw [hx] at e;exact e⟩)⟩
     simp (disch:=(first | omega | (simp only [LNl];omega))) only [↓SDl,SDr,if_pos,if_neg,↓hxb,hm,rate_bf x _ h1,decide_false])
  (by unfold vpB;simp (disch:=(first | omega | (simp only [LNl];omega))) only [↓SDl,SDr,if_pos,if_neg])
 rcases hs with ⟨⟨i,hi,hb⟩,e⟩ | ⟨hn,e⟩
 ·exact .inr ⟨fun h=>hb (h i hi),e⟩
 ·exact .inl ⟨fun i hi=>Classical.byContradiction fun h=>hn ⟨i,hi,h⟩,_,e⟩
theorem validP_j (l:List Ra) (f:Int):Is (rating_Valid (l,f)) (TV l f):=by
 rw [validP_eq]
 by_cases h1:l.length≤1000
 ·by_cases h2:0≤f∧f≤3600
  ·simp (disch:=(first | omega | (simp only [LNl];omega))) only [↓SDl,SDr,if_pos,if_neg,within_b,h2,and_self,decide_true]
   rcases vp_loop l h1 with ⟨d,v,e⟩ | ⟨d,e⟩
   ·rw [e];exact Is.t ⟨⟨h1,h2⟩,d⟩
   ·rw [e];exact Is.f fun k=>d k.2
  ·simp (disch:=(first | omega | (simp only [LNl];omega))) only [↓SDl,SDr,if_pos,if_neg,within_b,h2,decide_false]
   exact Is.f fun k=>h2 k.1.2
 ·simp (disch:=(first | omega | (simp only [LNl];omega))) only [↓SDl,SDr,if_pos,if_neg]
  exact Is.f fun k=>h1 k.1.1
theorem vi_loop (l:List Ra) {i:Nat} (hi:i<l.length) (hl:l.length≤1000):((∀k,k<i→(l.getD k r0).1≠(l.getD i r0).1)∧loopO (viB l i) (0:Int)=some (.inl (i:Int)))∨(¬(∀k,k<i→(l.getD k r0).1≠(l.getD i r0).1)∧loopO (viB l i) (0:Int)=some (.inr (.inr (.inr false)))):=by
 obtain ⟨y,hy,hyb⟩:=get_at r0 hi
 rcases loop_first (body:=viB l i) i (fun k=>(l.getD k r0).1=(l.getD i r0).1) (fun _ => .inr (.inr (.inr false))) (.inl (i:Int))
  (fun k hk hb=>by
    obtain ⟨x,hx,hxb⟩:=get_at r0 (show k<l.length by omega)
    rw [hx,hy] at hb
    have hn:((k:Int)+1)=((k+1:Nat):Int):=rfl
    unfold viB
    simp (disch:=(first | omega | (simp only [LNl];omega))) only [↓SDl,SDr,if_pos,if_neg,↓hxb,↓hyb,hb,wrap_i64',hn,decide_false])
  (fun k hk hb=>by
    obtain ⟨x,hx,hxb⟩:=get_at r0 (show k<l.length by omega)
    rw [hx,hy] at hb
    unfold viB
    simp (disch:=(first | omega | (simp only [LNl];omega))) only [↓SDl,SDr,if_pos,if_neg,↓hxb,↓hyb,hb,decide_true])
  (by unfold viB;simp (disch:=(first | omega | (simp only [LNl];omega))) only [↓SDl,SDr,if_pos,if_neg]) with ⟨k,h1,h2,_,e⟩ | ⟨h,e⟩
 ·exact .inr ⟨fun g=>g k h1 h2,e⟩
 ·exact .inl ⟨h,e⟩
theorem vr_loop (l:List Ra) (hl:l.length≤1000):((∀i,i<l.length→Rok l i)∧loopO (vrB l) (0:Int)=some (.inl ()))∨(¬(∀i,i<l.length→Rok l i)∧loopO (vrB l) (0:Int)=some (.inr false)):=by
 refine loop_all (body:=vrB l) l.length (Rok l) (fun i hi hb => ?_) (fun i hi hb => ?_) ?_
 ·obtain ⟨h1,h2⟩:=hb
  obtain ⟨x,hx,hxb⟩:=get_at r0 hi
  rw [hx] at h1
  have hn:((i:Int)+1)=((i+1:Nat):Int):=rfl
  rcases vi_loop l hi hl with ⟨_,e⟩ | ⟨k,_⟩
  ·unfold vrB
   simp (disch:=(first | omega | (simp only [LNl];omega))) only [↓SDl,SDr,if_pos,if_neg,↓hxb,rate_same,rate_b x (P:=True) _ h1,e,wrap_i64',hn]
  ·exact (k h2).elim
 ·obtain ⟨x,hx,hxb⟩:=get_at r0 hi
  by_cases h1:RV x
  ·have h2:¬ ∀k,k<i→(l.getD k r0).1≠(l.getD i r0).1:=fun k=>hb ⟨by rw [hx];exact h1,k⟩
   rcases vi_loop l hi hl with ⟨k,_⟩ | ⟨_,e⟩
   ·exact (h2 k).elim
   ·unfold vrB
    simp (disch:=(first | omega | (simp only [LNl];omega))) only [↓SDl,SDr,if_pos,if_neg,↓hxb,rate_same,rate_b x (P:=True) _ h1,e]
  ·unfold vrB
   simp (disch:=(first | omega | (simp only [LNl];omega))) only [↓SDl,SDr,if_pos,if_neg,↓hxb,rate_same,rate_bf x _ h1]
 ·unfold vrB
  simp (disch:=(first | omega | (simp only [LNl];omega))) only [↓SDl,SDr,if_pos,if_neg]
theorem validR_j (l:List Ra) (f:Int):Is (dialtoneref37_Valid (l,f)) (TV l f):=by
 rw [validR_eq]
 refine Is.and _ ?_
 by_cases h1:l.length≤1000
 ·by_cases h2:0≤f
  ·by_cases h3:f≤3600
   ·refine .inl ⟨⟨h1,h2,h3⟩,(),by simp (disch:=(first | omega | (simp only [LNl];omega))) only [↓SDl,SDr,if_pos,if_neg],?_⟩
    rcases vr_loop l h1 with ⟨d,e⟩ | ⟨d,e⟩
    ·rw [e];exact Is.t d
    ·rw [e];exact Is.f d
   ·exact .inr ⟨fun k=>h3 k.2.2,by simp (disch:=(first | omega | (simp only [LNl];omega))) only [↓SDl,SDr,if_pos,if_neg]⟩
  ·exact .inr ⟨fun k=>h2 k.2.1,by simp (disch:=(first | omega | (simp only [LNl];omega))) only [↓SDl,SDr,if_pos,if_neg]⟩
 ·exact .inr ⟨fun k=>h1 k.1,by simp (disch:=(first | omega | (simp only [LNl];omega))) only [↓SDl,SDr,if_pos,if_neg]⟩
theorem valid_same (l:List Ra) (f:Int):dialtoneref37_Valid (l,f)=rating_Valid (l,f):=(validR_j l f).eq (validP_j l f)
abbrev Bg (num p:List UInt8):Prop:=p.length≤num.length∧num.take p.length=p
theorem begR_b {β:Type} (num p:List UInt8) (f:Bool→Option β):bindO (dialtoneref37_Begins (num,p)) f=f (decide (Bg num p)):=by
 have e:dialtoneref37_Begins (num,p)=some (decide (Bg num p)):=by
  unfold dialtoneref37_Begins
  by_cases h:p.length≤num.length
  ·simp (disch:=omega) only [↓SDl,SDr,if_pos,if_neg,Int.toNat_natCast,Bg,h,true_and]
  ·simp (disch:=omega) only [↓SDl,SDr,if_pos,if_neg,Bg,h,false_and,decide_false]
 rw [e];rfl
theorem begP_b {β:Type} (num p:List UInt8) (f:Bool→Option β):bindO (strings_HasPrefix (num,p)) f=f (decide (Bg num p)):=by
 have e:strings_HasPrefix (num,p)=some (decide (Bg num p)):=by
  unfold strings_HasPrefix
  by_cases h:p.length≤num.length
  ·simp (disch:=omega) only [↓SDl,SDr,if_pos,if_neg,Int.toNat_natCast,Bg,h,true_and]
  ·simp (disch:=omega) only [↓SDl,SDr,if_pos,if_neg,Bg,h,false_and,decide_false]
 rw [e];rfl
abbrev Mt (l:List Ra) (num:List UInt8) (i:Nat):Prop:=Bg num (l.getD i r0).1
def FB (l:List Ra) (num:List UInt8) (n:Nat) (x:Int):Prop:=(x = -1∧∀j,j<n→¬Mt l num j)∨∃i:Nat,i<n∧x=(i:Int)∧Mt l num i∧∀j,j<n→Mt l num j→(l.getD j r0).1.length≤(l.getD i r0).1.length
theorem fp_loop (l:List Ra) (num:List UInt8) (hl:l.length≤1000):∃r,loopO (fpB l num) ((0:Int),(-1:Int))=some r∧∃x,r = .inl x∧FB l num l.length x:=by
 refine loopO_post (fun s=>∃(k:Nat) (x:Int),s=((k:Int),x)∧k≤l.length∧FB l num k x) _ (fun s=>l.length-s.1.toNat) (fun s hs => ?_) ⟨0,-1,rfl,by omega,.inl ⟨rfl,fun j hj=>by omega⟩⟩
 obtain ⟨k,x,rfl,hk,hF⟩:=hs
 by_cases ck:k<l.length
 ·refine .inr ?_
  obtain ⟨y,hy,hyb⟩:=get_at r0 ck
  have hn:((k:Int)+1)=((k+1:Nat):Int):=rfl
  have hlt:l.length-(((k+1:Nat):Int)).toNat<l.length-((k:Nat):Int).toNat:=by rw [Int.toNat_natCast,Int.toNat_natCast];omega
  by_cases hm:Bg num y.1
  ·have hmk:Mt l num k:=by unfold Mt;rw [hy];exact hm
   rcases hF with ⟨rfl,hno⟩ | ⟨i,hi,rfl,hmi,hmax⟩
   ·refine ⟨(((k+1:Nat):Int),(k:Int)),?_,⟨k+1,_,rfl,by omega,.inr ⟨k,by omega,rfl,hmk,fun j hj hmj => ?_⟩⟩,hlt⟩
    ·unfold fpB
     simp (disch:=(first | omega | (simp only [LNl];omega))) only [↓SDl,SDr,if_pos,if_neg,↓hyb,begP_b,hm,wrap_i64',hn,decide_true]
    ·by_cases e:j=k
     ·subst e;exact Nat.le_refl _
     ·exact (hno j (by omega) hmj).elim
   ·obtain ⟨z,hz,hzb⟩:=get_at r0 (show i<l.length by omega)
    by_cases hg:z.1.length<y.1.length
    ·refine ⟨(((k+1:Nat):Int),(k:Int)),?_,⟨k+1,_,rfl,by omega,.inr ⟨k,by omega,rfl,hmk,fun j hj hmj => ?_⟩⟩,hlt⟩
     ·unfold fpB
      simp (disch:=(first | omega | (simp only [LNl];omega))) only [↓SDl,SDr,if_pos,if_neg,↓hyb,↓hzb,begP_b,hm,wrap_i64',hn,decide_true]
     ·by_cases e:j=k
      ·subst e;exact Nat.le_refl _
      ·have:=hmax j (by omega) hmj
       rw [hz] at this
       rw [hy];omega
    ·refine ⟨(((k+1:Nat):Int),(i:Int)),?_,⟨k+1,_,rfl,by omega,.inr ⟨i,by omega,rfl,hmi,fun j hj hmj => ?_⟩⟩,hlt⟩
     ·unfold fpB
      simp (disch:=(first | omega | (simp only [LNl];omega))) only [↓SDl,SDr,if_pos,if_neg,↓hyb,↓hzb,begP_b,hm,wrap_i64',hn,decide_true]
     ·by_cases e:j=k
      ·subst e;rw [hy,hz];omega
      ·exact hmax j (by omega) hmj
  ·have hmk:¬Mt l num k:=by unfold Mt;rw [hy];exact hm
   refine ⟨(((k+1:Nat):Int),x),?_,⟨k+1,_,rfl,by omega,?_⟩,hlt⟩
   ·unfold fpB
    simp (disch:=(first | omega | (simp only [LNl];omega))) only [↓SDl,SDr,if_pos,if_neg,↓hyb,begP_b,hm,wrap_i64',hn,decide_false]
   ·rcases hF with ⟨rfl,hno⟩ | ⟨i,hi,rfl,hmi,hmax⟩
    ·refine .inl ⟨rfl,fun j hj hmj => ?_⟩
     by_cases e:j=k
     ·subst e;exact hmk hmj
     ·exact hno j (by omega) hmj
    ·refine .inr ⟨i,by omega,rfl,hmi,fun j hj hmj => ?_⟩
     by_cases e:j=k
     ·subst e;exact (hmk hmj).elim
     ·exact hmax j (by omega) hmj
 ·obtain rfl:k=l.length:=by omega
  refine .inl ⟨.inl x,?_,x,rfl,hF⟩
  unfold fpB
  simp (disch:=(first | omega | (simp only [LNl];omega))) only [↓SDl,SDr,if_pos,if_neg]
def FX (l:List Ra) (num:List UInt8) (r:Int×Bool):Prop:=(r=(0,false)∧∀j,j<l.length→¬Mt l num j)∨∃i:Nat,i<l.length∧r=((i:Int),true)∧Mt l num i∧∀j,j<l.length→Mt l num j→(l.getD j r0).1.length≤(l.getD i r0).1.length
theorem FX.uniq {l:List Ra} {num:List UInt8} {f:Int} (hv:TV l f) {r r':Int×Bool} (h:FX l num r) (h':FX l num r'):r=r':=by
 rcases h with ⟨rfl,h⟩ | ⟨i,hi,rfl,hm,hx⟩<;>rcases h' with ⟨rfl,h'⟩ | ⟨i',hi',rfl,hm',hx'⟩
 ·rfl
 ·exact (h i' hi' hm').elim
 ·exact (h' i hi hm).elim
 ·have e1:=hx i' hi' hm'
  have e2:=hx' i hi hm
  have e3:(l.getD i r0).1=(l.getD i' r0).1:=by
   rw [←hm.2,←hm'.2,show (l.getD i r0).1.length=(l.getD i' r0).1.length from by omega]
  have:i=i':=by
   rcases Nat.lt_trichotomy i i' with k | k | k
   ·exact ((hv.2 i' hi').2 i k e3).elim
   ·exact k
   ·exact ((hv.2 i hi).2 i' k e3.symm).elim
  rw [this]
theorem findP_j {l:List Ra} {f:Int} (num:List UInt8) (hv:TV l f):∃r,rating_Find ((l,f),num)=some r∧FX l num r:=by
 rw [findP_eq]
 have e:rating_Valid (l,f)=some true:=by
  rcases validP_j l f with ⟨_,e⟩ | ⟨k,_⟩
  ·exact e
  ·exact (k hv).elim
 obtain ⟨r,hr,x,rfl,hF⟩:=fp_loop l num hv.1.1
 simp only [e,↓SDl,SDr,hr]
 rcases hF with ⟨rfl,h⟩ | ⟨i,hi,rfl,hm,hx⟩
 ·exact ⟨(0,false),by simp (disch:=omega) only [↓SDl,SDr,if_pos],.inl ⟨rfl,h⟩⟩
 ·exact ⟨((i:Int),true),by simp (disch:=omega) only [↓SDl,SDr,if_neg],.inr ⟨i,hi,rfl,hm,hx⟩⟩
theorem find_bad {l:List Ra} {f:Int} (num:List UInt8) (hv:¬TV l f):rating_Find ((l,f),num)=some (0,false)∧dialtoneref37_Find ((l,f),num)=some (0,false):=by
 have e:rating_Valid (l,f)=some false:=by
  rcases validP_j l f with ⟨k,_⟩ | ⟨_,e⟩
  ·exact (hv k).elim
  ·exact e
 rw [findP_eq,findR_eq,valid_same,e]
 exact ⟨rfl,rfl⟩
theorem fi_loop (l:List Ra) (num:List UInt8) (v:Int) (hl:l.length≤1000):(∃i:Nat,i<l.length∧(((l.getD i r0).1.length:Int)=v∧Mt l num i)∧loopO (fiB l num v) (0:Int)=some (.inr (.inr (.inr ((i:Int),true)))))∨((∀i,i<l.length→¬(((l.getD i r0).1.length:Int)=v∧Mt l num i))∧loopO (fiB l num v) (0:Int)=some (.inl (l.length:Int))):=by
 rcases loop_first (body:=fiB l num v) l.length (fun k=>((l.getD k r0).1.length:Int)=v∧Mt l num k) (fun i => .inr (.inr (.inr ((i:Int),true)))) (.inl (l.length:Int))
  (fun k hk hb=>by
    obtain ⟨x,hx,hxb⟩:=get_at r0 hk
    unfold Mt at hb
    rw [hx] at hb
    have hn:((k:Int)+1)=((k+1:Nat):Int):=rfl
    unfold fiB
    by_cases h1:(x.1.length:Int)=v
    ·have h2:¬Bg num x.1:=fun k=>hb ⟨h1,k⟩
     simp (disch:=(first | omega | (simp only [LNl];omega))) only [↓SDl,SDr,if_pos,if_neg,↓hxb,begR_b,h2,wrap_i64',hn,decide_false]
    ·simp (disch:=(first | omega | (simp only [LNl];omega))) only [↓SDl,SDr,if_pos,if_neg,↓hxb,wrap_i64',hn])
  (fun k hk hb=>by
    obtain ⟨x,hx,hxb⟩:=get_at r0 hk
    unfold Mt at hb
    rw [hx] at hb
    obtain ⟨h1,h2⟩:=hb
    unfold fiB
    simp (disch:=(first | omega | (simp only [LNl];omega))) only [↓SDl,SDr,if_pos,if_neg,↓hxb,begR_b,h2,decide_true])
  (by unfold fiB;simp (disch:=(first | omega | (simp only [LNl];omega))) only [↓SDl,SDr,if_pos,if_neg]) with ⟨k,h1,h2,_,e⟩ | ⟨h,e⟩
 ·exact .inl ⟨k,h1,h2,e⟩
 ·exact .inr ⟨h,e⟩
theorem findR_j {l:List Ra} {f:Int} (num:List UInt8) (hv:TV l f):∃r,dialtoneref37_Find ((l,f),num)=some r∧FX l num r:=by
 rw [findR_eq]
 have e:dialtoneref37_Valid (l,f)=some true:=by
  rcases validR_j l f with ⟨_,e⟩ | ⟨k,_⟩
  ·exact e
  ·exact (k hv).elim
 simp only [e,↓SDl,SDr]
 refine loopO_postG (I:=fun v => -1≤v∧v≤20∧∀j,j<l.length→Mt l num j→((l.getD j r0).1.length:Int)≤v) (fun v=>(v+1).toNat) (fun o=>∃r,o=some r∧FX l num r) (fun v hI => ?_) ⟨by decide,by decide,fun j hj _ => ?_⟩
 ·obtain ⟨h1,h2,h3⟩:=hI
  unfold frB
  by_cases c:0≤v
  ·rcases fi_loop l num v hv.1.1 with ⟨i,hi,⟨k1,k2⟩,e⟩ | ⟨hno,e⟩
   ·simp (disch:=omega) only [↓SDl,SDr,if_pos,e]
    exact PostS.stop ⟨_,rfl,.inr ⟨i,hi,rfl,k2,fun j hj hm=>by have:=h3 j hj hm;omega⟩⟩
   ·simp (disch:=omega) only [↓SDl,SDr,if_pos,e,wrap_i64']
    refine PostS.next ⟨by omega,by omega,fun j hj hm => ?_⟩ (by omega)
    have k1:=h3 j hj hm
    have k2:=hno j hj
    have k3:¬(((l.getD j r0).1.length:Int)=v):=fun k=>k2 ⟨k,hm⟩
    omega
  ·simp (disch:=omega) only [↓SDl,SDr,if_neg]
   exact PostS.stop ⟨_,rfl,.inl ⟨rfl,fun j hj hm=>by have:=h3 j hj hm;omega⟩⟩
 ·have:=(hv.2 j hj).1.1.1
  omega
theorem find_same (l:List Ra) (f:Int) (num:List UInt8):∃r,rating_Find ((l,f),num)=some r∧dialtoneref37_Find ((l,f),num)=some r∧(TV l f→FX l num r)∧(¬TV l f→r=(0,false)):=by
 by_cases h:TV l f
 ·obtain ⟨r,e1,k1⟩:=findP_j num h
  obtain ⟨r',e2,k2⟩:=findR_j num h
  rw [k2.uniq h k1] at e2
  exact ⟨r,e1,e2,fun _=>k1,fun k=>(k h).elim⟩
 ·obtain ⟨e1,e2⟩:=find_bad num h
  exact ⟨_,e1,e2,fun k=>(h k).elim,fun _=>rfl⟩
end Go.Proofs.Ytkpijdndakljjaa.Rt

set_option maxRecDepth 100000
namespace Go.Proofs.Ytkpijdndakljjaa.Rt
open Go.RowKit
noncomputable def paB (a1:List Pr1) (x4 x6:Int):Int→Option (Int ⊕ (Unit ⊕ Int)) :=
(fun v7 =>
 bif (decide (v7<(((List.length a1):Nat):Int))) then
 bif (decide (((0:Int)≤v7)∧(v7<(((List.length a1):Nat):Int)))) then
 bindO a1[(Int.toNat v7)]? fun x8 =>
 bif (decide ((0:Int)≤x4)) then
 bif (decide ((Go.IntKind.wrap .u8 (((BitVec.toNat ((BitVec.ofInt 8 (Int.fdiv x8.1.1 ((2:Int) ^ (Min.min (Int.toNat x4) 8)))) &&& (BitVec.ofInt 8 (1:Int)))):Nat):Int))=(1:Int))) then
 bif (decide (x6≥x8.1.2.1)) then
 bif (decide (x6<x8.1.2.2)) then
 outO (outO (some v7))
 else
 some (Sum.inl (Go.IntKind.wrap .i64 (v7+(1:Int))))
 else
 some (Sum.inl (Go.IntKind.wrap .i64 (v7+(1:Int))))
 else
 some (Sum.inl (Go.IntKind.wrap .i64 (v7+(1:Int))))
 else none
 else none
 else
 outO (some (Sum.inl ())))
theorem priceAt_eq (a1:List Pr1) (a2:Int):rating_priceAt (a1,a2) =
 bindO (some (Int.tmod (Go.IntKind.wrap .i64 (Int.tdiv a2 (86400000:Int))) (7:Int))) fun x4 =>
 bindO (some (Int.tmod (Go.IntKind.wrap .i64 (Int.tdiv a2 (60000:Int))) (1440:Int))) fun x6 =>
 joinO (loopO (paB a1 x4 x6) (0:Int)) fun _ =>
 some (-1:Int):=rfl
noncomputable def btB (a1:Int):(Int×Int)→Option ((Int×Int) ⊕ (Int ⊕ Int)) :=
(fun (v2,v3) =>
 bif (decide (v2<a1)) then
 some (Sum.inl ((Go.IntKind.wrap .i64 (v2+(1:Int))),(Go.IntKind.wrap .i64 ((2:Int)*v3))))
 else
 outO (some (Sum.inl v3)))
theorem bit_eq (a1:Int):dialtoneref37_bit a1 =
 joinO (loopO (btB a1) ((0:Int),(1:Int))) fun v6 =>
 some v6:=rfl
noncomputable def prcB (a5:List Pr1) (a6:Int):Int→Option (Int ⊕ (Unit ⊕ (Int×Bool))) :=
(fun v8 =>
 bif (decide (v8<(((List.length a5):Nat):Int))) then
 bif (decide (((0:Int)≤v8)∧(v8<(((List.length a5):Nat):Int)))) then
 bindO a5[(Int.toNat v8)]? fun x9 =>
 bindO (dialtoneref37_Contains ((x9.1.1,(x9.1.2.1,x9.1.2.2)),a6)) fun x10 =>
 bif x10 then
 outO (outO (some (v8,Bool.true)))
 else
 some (Sum.inl (Go.IntKind.wrap .i64 (v8+(1:Int))))
 else none
 else
 outO (some (Sum.inl ())))
theorem priceR_eq (a1:List UInt8) (a2 a3 a4:Int) (a5:List Pr1) (a6:Int):dialtoneref37_PriceAt ((a1,(a2,(a3,(a4,a5)))),a6) =
 joinO (bindO (dialtoneref37_Rate (a1,(a2,(a3,(a4,a5))))) fun x7 =>
 bif (!x7) then
 outO (some ((0:Int),Bool.false))
 else
 bif (decide (a6<(0:Int))) then
 outO (some ((0:Int),Bool.false))
 else
 bif (decide (a6 > (562949953421312:Int))) then
 outO (some ((0:Int),Bool.false))
 else
 some (Sum.inl ())) fun _ =>
 joinO (loopO (prcB a5 a6) (0:Int)) fun _ =>
 some ((0:Int),Bool.false):=rfl
def SE (a b:Int):Int:=if 0≤a∧a≤b∧b≤281474976710656 then (b-a+999) / 1000 else 0
theorem secondsP_j (a b:Int):rating_Seconds (a,b)=some (SE a b):=by
 unfold rating_Seconds SE
 by_cases h1:0≤a∧a≤281474976710656
 ·by_cases h2:a≤b∧b≤281474976710656
  ·rw [if_pos (show 0≤a∧a≤b∧b≤281474976710656 by omega)]
   simp (disch:=omega) only [↓SDl,SDr,within_b,h1,h2,and_self,decide_true,wrap_i64']
   rw [Int.tdiv_eq_ediv_of_nonneg (by omega)]
   rw [wrap_i64' (by omega)]
  ·rw [if_neg (by omega)]
   simp (disch:=omega) only [↓SDl,SDr,within_b,h1,h2,and_self,decide_true,decide_false]
 ·rw [if_neg (by omega)]
  simp (disch:=omega) only [↓SDl,SDr,within_b,h1,decide_false]
abbrev Spn (a b:Int):Prop:=0≤a∧a≤b∧b≤281474976710656
theorem span_b {β:Type} (a b:Int) (f:Bool→Option β):bindO (dialtoneref37_Span (a,b)) f=f (decide (Spn a b)):=by
 have e:dialtoneref37_Span (a,b)=some (decide (Spn a b)):=by
  unfold dialtoneref37_Span
  by_cases h1:0≤a
  ·by_cases h2:0≤b
   ·by_cases h3:a≤281474976710656
    ·by_cases h4:b≤281474976710656
     ·simp (disch:=omega) only [↓SDl,SDr,if_pos]
      exact congrArg some (decide_eq_decide.2 ⟨fun k=>⟨h1,k,h4⟩,fun k=>k.2.1⟩)
     ·simp (disch:=omega) only [↓SDl,SDr,if_pos,if_neg]
      rw [decide_eq_false (show ¬Spn a b by omega)]
    ·simp (disch:=omega) only [↓SDl,SDr,if_pos,if_neg]
     rw [decide_eq_false (show ¬Spn a b by omega)]
   ·simp (disch:=omega) only [↓SDl,SDr,if_pos,if_neg]
    rw [decide_eq_false (show ¬Spn a b by omega)]
  ·simp (disch:=omega) only [↓SDl,SDr,if_pos,if_neg]
   rw [decide_eq_false (show ¬Spn a b by omega)]
 rw [e];rfl
theorem secondsR_j (a b:Int):dialtoneref37_Seconds (a,b)=some (SE a b):=by
 unfold dialtoneref37_Seconds SE
 by_cases h:Spn a b
 ·rw [if_pos h]
  have h':=h
  obtain ⟨h1,h2,h3⟩:=h'
  simp (disch:=omega) only [↓SDl,SDr,span_b,h,decide_true,wrap_i64']
  rw [Int.tdiv_eq_ediv_of_nonneg (by omega),Int.tmod_eq_emod_of_nonneg (by omega)]
  rw [wrap_i64' (n:=(b-a) / 1000) (by omega)]
  by_cases k:(b-a) % 1000 > 0
  ·rw [if_pos k,wrap_i64' (n:=(b-a) / 1000+1) (by omega)]
   congr 1
   omega
  ·rw [if_neg k]
   congr 1
   omega
 ·rw [if_neg h]
  simp (disch:=omega) only [↓SDl,SDr,span_b,h,decide_false]
theorem se_nn (a b:Int):0≤SE a b∧SE a b≤300000000000:=by
 unfold SE;split<;>omega
def wkd (a:Int):Int:=(a / 86400000) % 7
def mnt (a:Int):Int:=(a / 60000) % 1440
def CT (p:Pr1) (a:Int):Prop:=(p.1.1 / (2:Int) ^ (wkd a).toNat) % 2=1∧p.1.2.1≤mnt a∧mnt a<p.1.2.2
instance (p:Pr1) (a:Int):Decidable (CT p a):=by unfold CT;infer_instance
theorem wrap_u8' {n:Int} (h:0≤n∧n≤255):IntKind.wrap .u8 n=n:=by
 show (if (false&&decide (n % 256≥128))=true then n % 256-256 else n % 256)=n
 simp only [Bool.false_and,Bool.false_eq_true,if_false]
 omega
theorem pow_pos' (k:Nat):(0:Int)<2 ^ k:=Int.pow_pos (by decide)
theorem bit_lem {d:Int} (k:Nat) (hd:0≤d∧d≤255) (hk:k≤8):(Go.IntKind.wrap .u8 (((BitVec.toNat ((BitVec.ofInt 8 (Int.fdiv d ((2:Int) ^ (Min.min k 8)))) &&& (BitVec.ofInt 8 (1:Int)))):Nat):Int))=(d / (2:Int) ^ k) % 2:=by
 rw [show Min.min k 8=k from by omega,Int.fdiv_eq_ediv_of_nonneg _ (by have:=pow_pos' k;omega)]
 have h0:0≤d / (2:Int) ^ k:=Int.ediv_nonneg hd.1 (by have:=pow_pos' k;omega)
 have h1:d / (2:Int) ^ k≤d:=Int.ediv_le_self _ hd.1
 generalize d / (2:Int) ^ k=X at *
 rw [BitVec.toNat_and,BitVec.toNat_ofInt,BitVec.toNat_ofInt]
 have e1:((1:Int) % ((2 ^ 8:Nat):Int)).toNat=1:=rfl
 rw [e1,Nat.and_one_is_mod]
 have e2:(X % ((2 ^ 8:Nat):Int)).toNat=X.toNat:=by
  rw [Int.emod_eq_of_lt h0 (by show X<256;omega)]
 rw [e2]
 have e3:((X.toNat % 2:Nat):Int)=X % 2:=by omega
 rw [e3]
 exact wrap_u8' (by omega)
theorem wk_j {a:Int} (h:0≤a∧a≤4000000000000000000):Int.tmod (Go.IntKind.wrap .i64 (Int.tdiv a (86400000:Int))) (7:Int)=wkd a:=by
 rw [Int.tdiv_eq_ediv_of_nonneg h.1,wrap_i64' (by omega),Int.tmod_eq_emod_of_nonneg (by omega)];rfl
theorem mn_j {a:Int} (h:0≤a∧a≤4000000000000000000):Int.tmod (Go.IntKind.wrap .i64 (Int.tdiv a (60000:Int))) (1440:Int)=mnt a:=by
 rw [Int.tdiv_eq_ediv_of_nonneg h.1,wrap_i64' (by omega),Int.tmod_eq_emod_of_nonneg (by omega)];rfl
theorem wkd_r (a:Int):0≤wkd a∧wkd a≤6:=by unfold wkd;omega
theorem mnt_r (a:Int):0≤mnt a∧mnt a≤1439:=by unfold mnt;omega
def PX (l:List Pr1) (a x:Int):Prop:=(x = -1∧∀j,j<l.length→¬CT (l.getD j p0) a)∨∃i:Nat,i<l.length∧x=(i:Int)∧CT (l.getD i p0) a∧∀j,j<i→¬CT (l.getD j p0) a
theorem PX.uniq {l:List Pr1} {a x y:Int} (h:PX l a x) (k:PX l a y):x=y:=by
 rcases h with ⟨rfl,h⟩ | ⟨i,hi,rfl,hc,hn⟩<;>rcases k with ⟨rfl,k⟩ | ⟨j,hj,rfl,kc,kn⟩
 ·rfl
 ·exact (h j hj kc).elim
 ·exact (k i hi hc).elim
 ·have:i=j:=by
   rcases Nat.lt_trichotomy i j with g | g | g
   ·exact (kn i g hc).elim
   ·exact g
   ·exact (hn j g kc).elim
  rw [this]
theorem priceAt_j {l:List Pr1} {a:Int} (hl:l.length≤1000) (hp:Pks l) (ha:0≤a∧a≤4000000000000000000):∃x,rating_priceAt (l,a)=some x∧PX l a x:=by
 rw [priceAt_eq]
 simp only [↓SDl,SDr,wk_j ha,mn_j ha]
 have hw:=wkd_r a
 rcases loop_first (body:=paB l (wkd a) (mnt a)) l.length (fun i=>CT (l.getD i p0) a) (fun i => .inr (i:Int)) (.inl ())
  (fun i hi hb=>by
    obtain ⟨x,hx,hxb⟩:=get_at p0 hi
    have hpi:=hp i hi
    rw [hx] at hb hpi
    have hbl:=bit_lem (d:=x.1.1) (wkd a).toNat (by have:=hpi.1;omega) (by omega)
    have hn:((i:Int)+1)=((i+1:Nat):Int):=rfl
    unfold paB
    simp (disch:=(first | omega | (simp only [LNl];omega))) only [↓SDl,SDr,if_pos,if_neg,↓hxb,hbl,wrap_i64',hn]
    by_cases c1:(x.1.1 / (2:Int) ^ (wkd a).toNat) % 2=1
    ·by_cases c2:x.1.2.1≤mnt a
     ·have c3:¬mnt a<x.1.2.2:=fun k=>hb ⟨c1,c2,k⟩
      simp (disch:=(first | omega | (simp only [LNl];omega))) only [↓SDl,SDr,if_pos,if_neg,wrap_i64',hn]
     ·simp (disch:=(first | omega | (simp only [LNl];omega))) only [↓SDl,SDr,if_pos,if_neg,wrap_i64',hn]
    ·simp (disch:=(first | omega | (simp only [LNl];omega))) only [↓SDl,SDr,if_pos,if_neg,wrap_i64',hn])
  (fun i hi hb=>by
    obtain ⟨x,hx,hxb⟩:=get_at p0 hi
    have hpi:=hp i hi
    rw [hx] at hb hpi
    obtain ⟨c1,c2,c3⟩:=hb
    have hbl:=bit_lem (d:=x.1.1) (wkd a).toNat (by have:=hpi.1;omega) (by omega)
    unfold paB
    simp (disch:=(first | omega | (simp only [LNl];omega))) only [↓SDl,SDr,if_pos,if_neg,↓hxb,hbl])
  (by unfold paB;simp (disch:=(first | omega | (simp only [LNl];omega))) only [↓SDl,SDr,if_pos,if_neg]) with ⟨i,h1,h2,h3,e⟩ | ⟨h,e⟩
 ·rw [e];exact ⟨_,rfl,.inr ⟨i,h1,rfl,h2,h3⟩⟩
 ·rw [e];exact ⟨_,rfl,.inl ⟨rfl,h⟩⟩
theorem last_ct {p:Pr1} (h:Lst p) (a:Int):CT p a:=by
 obtain ⟨h1,h2,h3⟩:=h
 have hm:=mnt_r a
 have hw:=wkd_r a
 refine ⟨?_,by omega,by omega⟩
 rw [h1]
 obtain ⟨k,hk⟩:∃k,(wkd a).toNat=k:=⟨_,rfl⟩
 rw [hk]
 have hk6:k≤6:=by omega
 have:k=0∨k=1∨k=2∨k=3∨k=4∨k=5∨k=6:=by omega
 rcases this with rfl | rfl | rfl | rfl | rfl | rfl | rfl<;>decide
theorem PX.pos {l:List Pr1} {a x:Int} (hl:RVl l) (h:PX l a x):∃i:Nat,i<l.length∧x=(i:Int):=by
 rcases h with ⟨rfl,h⟩ | ⟨i,hi,rfl,_⟩
 ·exact (h (l.length-1) (by have:=hl.1;omega) (last_ct hl.2.2 a)).elim
 ·exact ⟨i,hi,rfl⟩
theorem bit_j (k:Nat) (hk:k≤8):dialtoneref37_bit (k:Int)=some ((2:Int) ^ k):=by
 rw [bit_eq]
 have e:loopO (btB (k:Int)) ((0:Int),(1:Int))=some (.inl ((2:Int) ^ k)):=by
  refine loopO_from (fun i=>((i:Int),(2:Int) ^ i)) k rfl (fun i hi => ?_) ?_
  ·have hp:(2:Int) ^ (i+1)=2*2 ^ i:=by rw [Int.pow_succ,Int.mul_comm]
   have hb:(2:Int) ^ i≤256:=by
    have:i=0∨i=1∨i=2∨i=3∨i=4∨i=5∨i=6∨i=7:=by omega
    rcases this with rfl | rfl | rfl | rfl | rfl | rfl | rfl | rfl<;>decide
   have h0:=pow_pos' i
   have hn:((i:Int)+1)=((i+1:Nat):Int):=rfl
   unfold btB
   simp (disch:=omega) only [↓SDl,SDr,if_pos,wrap_i64',hn,hp]
  ·unfold btB
   simp (disch:=omega) only [↓SDl,SDr,if_neg]
 rw [e];rfl
theorem cont_b {β:Type} {x:Pr1} {a:Int} (hp:Pok x) (ha:0≤a∧a≤4000000000000000000) (f:Bool→Option β):bindO (dialtoneref37_Contains ((x.1.1,(x.1.2.1,x.1.2.2)),a)) f=f (decide (CT x a)):=by
 have e:dialtoneref37_Contains ((x.1.1,(x.1.2.1,x.1.2.2)),a)=some (decide (CT x a)):=by
  unfold dialtoneref37_Contains
  have hw:=wkd_r a
  have hm:=mnt_r a
  simp only [↓SDl,SDr,wk_j ha,mn_j ha]
  obtain ⟨k,hk⟩:∃k:Nat,wkd a=(k:Int):=⟨(wkd a).toNat,by omega⟩
  have hk':(wkd a).toNat=k:=by omega
  have h0:=pow_pos' k
  have hd:=hp.1
  have d0:0≤x.1.1 / (2:Int) ^ k:=Int.ediv_nonneg (by omega) (by omega)
  have d1:x.1.1 / (2:Int) ^ k≤x.1.1:=Int.ediv_le_self _ (by omega)
  rw [hk,bit_j k (by omega)]
  simp (disch:=omega) only [↓SDl,SDr,ne_eq,wrap_i64',Int.tdiv_eq_ediv_of_nonneg]
  rw [Int.tmod_eq_emod_of_nonneg d0]
  have hct:CT x a↔(x.1.1 / (2:Int) ^ k) % 2=1∧x.1.2.1≤mnt a∧mnt a<x.1.2.2:=by unfold CT;rw [hk']
  by_cases c1:(x.1.1 / (2:Int) ^ k) % 2=1
  ·by_cases c2:x.1.2.1≤mnt a
   ·rw [if_pos c1,if_pos c2]
    by_cases c3:mnt a<x.1.2.2
    ·rw [decide_eq_true c3,decide_eq_true (hct.2 ⟨c1,c2,c3⟩)]
    ·rw [decide_eq_false c3,decide_eq_false (fun k=>c3 (hct.1 k).2.2)]
   ·rw [if_pos c1,if_neg c2,decide_eq_false (fun k=>c2 (hct.1 k).2.1)]
  ·rw [if_neg c1,decide_eq_false (fun k=>c1 (hct.1 k).1)]
 rw [e];rfl
theorem prc_loop {l:List Pr1} {a:Int} (hl:l.length≤1000) (hp:Pks l) (ha:0≤a∧a≤4000000000000000000):(∃i:Nat,PX l a (i:Int)∧loopO (prcB l a) (0:Int)=some (.inr ((i:Int),true)))∨(PX l a (-1)∧loopO (prcB l a) (0:Int)=some (.inl ())):=by
 rcases loop_first (body:=prcB l a) l.length (fun i=>CT (l.getD i p0) a) (fun i => .inr ((i:Int),true)) (.inl ())
  (fun i hi hb=>by
    obtain ⟨x,hx,hxb⟩:=get_at p0 hi
    have hpi:=hp i hi
    rw [hx] at hb hpi
    have hn:((i:Int)+1)=((i+1:Nat):Int):=rfl
    unfold prcB
    simp (disch:=(first | omega | (simp only [LNl];omega))) only [↓SDl,SDr,if_pos,if_neg,↓hxb,cont_b hpi ha,hb,decide_false,wrap_i64',hn])
  (fun i hi hb=>by
    obtain ⟨x,hx,hxb⟩:=get_at p0 hi
    have hpi:=hp i hi
    rw [hx] at hb hpi
    unfold prcB
    simp (disch:=(first | omega | (simp only [LNl];omega))) only [↓SDl,SDr,if_pos,if_neg,↓hxb,cont_b hpi ha,hb,decide_true])
  (by unfold prcB;simp (disch:=(first | omega | (simp only [LNl];omega))) only [↓SDl,SDr,if_pos,if_neg]) with ⟨i,h1,h2,h3,e⟩ | ⟨h,e⟩
 ·exact .inl ⟨i,.inr ⟨i,h1,rfl,h2,h3⟩,e⟩
 ·exact .inr ⟨.inl ⟨rfl,h⟩,e⟩
theorem validRate_t {r:Ra} (h:RV r):rating_validRate (r.1,(r.2.1,(r.2.2.1,(r.2.2.2.1,r.2.2.2.2))))=some true:=by
 rcases validRate_j r.1 r.2.1 r.2.2.1 r.2.2.2.1 r.2.2.2.2 with ⟨_,e⟩ | ⟨k,_⟩
 ·exact e
 ·exact (k h).elim
theorem priceR_j {r:Ra} {a:Int} (h:RV r) (ha:0≤a∧a≤562949953421312):∃i:Nat,i<r.2.2.2.2.length∧PX r.2.2.2.2 a (i:Int)∧dialtoneref37_PriceAt ((r.1,(r.2.1,(r.2.2.1,(r.2.2.2.1,r.2.2.2.2)))),a)=some ((i:Int),true):=by
 rw [priceR_eq,rate_same,validRate_t h]
 simp (disch:=omega) only [↓SDl,SDr,if_neg]
 rcases prc_loop (l:=r.2.2.2.2) (a:=a) (by have:=h.2.2.1;omega) h.2.2.2.1 (by omega) with ⟨i,hx,e⟩ | ⟨hx,e⟩
 ·obtain ⟨i',hi',e'⟩:=hx.pos h.2.2
  have:i=i':=by omega
  subst this
  rw [e]
  exact ⟨i,hi',hx,rfl⟩
 ·obtain ⟨i',hi',e'⟩:=hx.pos h.2.2
  omega
end Go.Proofs.Ytkpijdndakljjaa.Rt

set_option maxRecDepth 100000
namespace Go.Proofs.Ytkpijdndakljjaa.Rt
open Go.RowKit
noncomputable def pcB (a1:List UInt8) (a2 a3 a4:Int) (a5:List Pr1) (a6 a7:Int):Int→Option (Int ⊕ (Int ⊕ Int)) :=
(fun v9 =>
 bindO (dialtoneref37_Begin ((a1,(a2,(a3,(a4,a5)))),(a6,v9))) fun x10 =>
 bif (decide (x10<a7)) then
 some (Sum.inl (Go.IntKind.wrap .i64 (v9+(1:Int))))
 else
 outO (some (Sum.inl v9)))
theorem piecesR_eq (a1:List UInt8) (a2 a3 a4:Int) (a5:List Pr1) (a6 a7:Int):dialtoneref37_Pieces ((a1,(a2,(a3,(a4,a5)))),(a6,a7)) =
 joinO (bindO (dialtoneref37_Rate (a1,(a2,(a3,(a4,a5))))) fun x8 =>
 bif (!x8) then
 outO (some (0:Int))
 else
 bif (decide (a6<(0:Int))) then
 outO (some (0:Int))
 else
 bif (decide (a6 > (3600:Int))) then
 outO (some (0:Int))
 else
 bif (decide (a7<(0:Int))) then
 outO (some (0:Int))
 else
 bif (decide (a7 > (1000000:Int))) then
 outO (some (0:Int))
 else
 some (Sum.inl ())) fun _ =>
 joinO (loopO (pcB a1 a2 a3 a4 a5 a6 a7) (0:Int)) fun v12 =>
 some v12:=rfl
def BG (f fi st:Int) (i:Nat):Int:=if i=0 then f else f+fi+((i:Int)-1)*st
def PN (f fi st s:Int):Int:=if s≤f then 0 else if s-f-fi≤0 then 1 else 1+(s-f-fi+st-1) / st
theorem pn_nn {f fi st s:Int} (hst:1≤st):0≤PN f fi st s:=by
 unfold PN
 split
 ·omega
 ·split
  ·omega
  ·have:=Int.ediv_nonneg (a:=s-f-fi+st-1) (b:=st) (by omega) (by omega)
   omega
theorem bg_lt {f fi st s:Int} (hst:1≤st) {i:Nat} (h:(i:Int)<PN f fi st s):BG f fi st i<s:=by
 unfold PN at h
 unfold BG
 split at h
 ·omega
 ·split at h
  ·have:i=0:=by omega
   rw [if_pos this];omega
  ·by_cases e:i=0
   ·rw [if_pos e];omega
   ·rw [if_neg e]
    have h1:(i:Int)≤(s-f-fi+st-1) / st:=by omega
    have h2:(i:Int)*st≤s-f-fi+st-1:=(Int.le_ediv_iff_mul_le (by omega)).1 h1
    rw [Int.sub_mul,Int.one_mul];omega
theorem bg_ge {f fi st s:Int} (hst:1≤st) {i:Nat} (h:(i:Int)=PN f fi st s):s≤BG f fi st i:=by
 unfold PN at h
 unfold BG
 split at h
 ·rw [if_pos (by omega)];omega
 ·split at h
  ·have:i=1:=by omega
   subst this
   rw [if_neg (by omega),show (((1:Nat):Int)-1)=0 from rfl,Int.zero_mul];omega
  ·have h0:=Int.ediv_nonneg (a:=s-f-fi+st-1) (b:=st) (by omega) (by omega)
   have hl:=Int.lt_ediv_add_one_mul_self (s-f-fi+st-1) (show 0<st by omega)
   rw [if_neg (by omega),show ((i:Int)-1)=(s-f-fi+st-1) / st from by omega]
   rw [Int.add_mul,Int.one_mul] at hl
   omega
theorem pn_le {f fi st s:Int} (hst:1≤st) (hf:0≤f) (hfi:1≤fi) (hs:0≤s):PN f fi st s≤s:=by
 unfold PN
 split
 ·omega
 ·split
  ·omega
  ·have:(s-f-fi+st-1) / st≤s-f-fi:=by
    have h1:=Int.lt_ediv_add_one_mul_self (s-f-fi+st-1) (show 0<st by omega)
    refine Int.ediv_le_of_le_mul (by omega) ?_
    have:(s-f-fi)*st=(s-f-fi-1)*(st-1)+(s-f-fi+st-1):=by
     rw [Int.sub_mul (s-f-fi) 1 (st-1),Int.mul_sub,Int.mul_one,Int.one_mul];omega
    have h2:=Int.mul_nonneg (a:=s-f-fi-1) (b:=st-1) (by omega) (by omega)
    omega
   omega
theorem bg_bd {f fi st:Int} (hf:0≤f∧f≤3600) (hfi:1≤fi∧fi≤3600) (hst:1≤st∧st≤3600) {i:Nat} (hi:i≤1000001):0≤BG f fi st i∧BG f fi st i≤4000000000:=by
 unfold BG
 split
 ·omega
 ·have h1:=Int.mul_nonneg (a:=(i:Int)-1) (b:=st) (by omega) (by omega)
  have h2:((i:Int)-1)*st≤1000000*3600:=Int.mul_le_mul (by omega) hst.2 (by omega) (by omega)
  omega
theorem begin_b {β:Type} (r:Ra) {f:Int} (hf:0≤f∧f≤3600) (hfi:1≤r.2.2.1∧r.2.2.1≤3600) (hst:1≤r.2.2.2.1∧r.2.2.2.1≤3600) {i:Nat} (hi:i≤1000001) (k:Int→Option β):bindO (dialtoneref37_Begin ((r.1,(r.2.1,(r.2.2.1,(r.2.2.2.1,r.2.2.2.2)))),(f,(i:Int)))) k=k (BG f r.2.2.1 r.2.2.2.1 i):=by
 have e:dialtoneref37_Begin ((r.1,(r.2.1,(r.2.2.1,(r.2.2.2.1,r.2.2.2.2)))),(f,(i:Int)))=some (BG f r.2.2.1 r.2.2.2.1 i):=by
  unfold dialtoneref37_Begin BG
  by_cases h:i=0
  ·subst h
   simp (disch:=omega) only [↓SDl,SDr,if_pos]
  ·have h1:=Int.mul_nonneg (a:=(i:Int)-1) (b:=r.2.2.2.1) (by omega) (by omega)
   have h2:((i:Int)-1)*r.2.2.2.1≤1000000*3600:=Int.mul_le_mul (by omega) hst.2 (by omega) (by omega)
   rw [if_neg h]
   simp (disch:=omega) only [↓SDl,SDr,if_neg,wrap_i64']
 rw [e];rfl
theorem piecesP_j {r:Ra} {f s:Int} (h:RV r) (hf:0≤f∧f≤3600) (hs:0≤s∧s≤1000000):rating_Pieces ((r.1,(r.2.1,(r.2.2.1,(r.2.2.2.1,r.2.2.2.2)))),(f,s))=some (PN f r.2.2.1 r.2.2.2.1 s):=by
 have hfi:=h.1.2.2.1
 have hst:=h.1.2.2.2
 unfold rating_Pieces PN
 by_cases h1:s≤f
 ·rw [if_pos h1]
  simp (disch:=omega) only [↓SDl,SDr,validRate_t h,within_b,hf,hs,and_self,decide_true,if_pos]
 ·rw [if_neg h1]
  simp (disch:=omega) only [↓SDl,SDr,validRate_t h,within_b,hf,hs,and_self,decide_true,if_neg,wrap_i64']
  by_cases h2:s-f-r.2.2.1≤0
  ·rw [if_pos h2,if_pos h2]
  ·rw [if_neg h2,if_neg h2]
   have h0:=Int.ediv_nonneg (a:=s-f-r.2.2.1+r.2.2.2.1-1) (b:=r.2.2.2.1) (by omega) (by omega)
   have h3:=Int.ediv_le_self (a:=s-f-r.2.2.1+r.2.2.2.1-1) r.2.2.2.1 (by omega)
   rw [Int.tdiv_eq_ediv_of_nonneg (by omega)]
   simp (disch:=omega) only [↓SDl,SDr,if_pos,wrap_i64',ne_eq]
theorem piecesR_j {r:Ra} {f s:Int} (h:RV r) (hf:0≤f∧f≤3600) (hs:0≤s∧s≤1000000):dialtoneref37_Pieces ((r.1,(r.2.1,(r.2.2.1,(r.2.2.2.1,r.2.2.2.2)))),(f,s))=some (PN f r.2.2.1 r.2.2.2.1 s):=by
 have hfi:=h.1.2.2.1
 have hst:=h.1.2.2.2
 rw [piecesR_eq,rate_same,validRate_t h]
 have hn:=pn_nn (f:=f) (fi:=r.2.2.1) (s:=s) hst.1
 have hle:=pn_le (st:=r.2.2.2.1) hst.1 hf.1 hfi.1 hs.1
 obtain ⟨n,hn'⟩:∃n:Nat,PN f r.2.2.1 r.2.2.2.1 s=(n:Int):=⟨(PN f r.2.2.1 r.2.2.2.1 s).toNat,by omega⟩
 have e:loopO (pcB r.1 r.2.1 r.2.2.1 r.2.2.2.1 r.2.2.2.2 f s) (0:Int)=some (.inl (n:Int)):=by
  refine loopO_from (fun i=>(i:Int)) n rfl (fun i hi => ?_) ?_
  ·have hlt:=bg_lt (f:=f) (fi:=r.2.2.1) (s:=s) hst.1 (i:=i) (by omega)
   have hn1:((i:Int)+1)=((i+1:Nat):Int):=rfl
   unfold pcB
   rw [begin_b r hf hfi hst (by omega)]
   simp (disch:=omega) only [↓SDl,SDr,if_pos,wrap_i64',hn1]
  ·have hge:=bg_ge (f:=f) (fi:=r.2.2.1) (s:=s) hst.1 (i:=n) (by omega)
   unfold pcB
   rw [begin_b r hf hfi hst (by omega)]
   simp (disch:=omega) only [↓SDl,SDr,if_neg]
 simp (disch:=omega) only [↓SDl,SDr,if_neg,e]
 rw [hn']
end Go.Proofs.Ytkpijdndakljjaa.Rt
