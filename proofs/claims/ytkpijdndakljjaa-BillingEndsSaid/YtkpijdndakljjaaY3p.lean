import Derived.Test.YtkpijdndakljjaaZrp
import Derived.Test.YtkpijdndakljjaaFp
import Derived.Test.YtkpijdndakljjaaXBp
import Derived.Test.YtkpijdndakljjaaV7p
set_option linter.unusedSimpArgs false
set_option linter.unusedVariables false
set_option maxRecDepth 1000000
set_option maxHeartbeats 0
namespace Go.Proofs.Ytkpijdndakljjaa
open Go.RowKit
def plan41:List (Nat×PL):=[]
noncomputable def billing_within:(Int×(Int×Int))→Option Bool:=fun (a1,(a2,a3)) =>
 bif (decide (a1≥a2)) then
 some (decide (a1≤a3))
 else
 some Bool.false
noncomputable def cons41:List (Nat×CE):=[]
theorem cons41_ok:ConL Try.prog cons41:=trivial
noncomputable def ce41:CE:=⟨[(.tmp 0 false [dI]),(.tmp 1 false [dI]),(.tmp 2 false [dI])],[(.tmp 0 false [dO])],billing_within⟩
theorem con41:ConOk Try.prog 41 ce41 :=
 tree_ok (plan:=planOf plan41) (eg:=egNo) KK tabL_ok (conOf_ok cons41_ok) Try.func41 (by kernel_rfl) (by kernel_rfl) 10000 (fun a r h=>Eq.trans (show _=billing_within a from by kernel_rfl) h)
def plan43:List (Nat×PL):=[(134480385,(.carry [.tmp 3 false [dI]])),(35253225785350,(.carry [.tmp 3 false [dI]]))]
noncomputable def billing_openCount:(List (LU×(LU×(LU×(Int×(Int×(Int×(Int×(Int×(Int×Bool))))))))))→Option Int:=fun a1 =>
 joinO (loopO (fun v2 =>
 bif (decide (v2<(((List.length a1):Nat):Int))) then
 bif (decide (((0:Int)≤v2)∧(v2<(((List.length a1):Nat):Int)))) then
 bindO a1[(Int.toNat v2)]? fun x3 =>
 bif (decide (x3.2.2.2.2.2.2.1=(0:Int))) then
 some (Sum.inl (Go.IntKind.wrap .i64 (v2+(1:Int))))
 else
 outO (some (Sum.inl v2))
 else none
 else
 outO (some (Sum.inl v2))) (0:Int)) fun v5 =>
 some v5
noncomputable def cons43:List (Nat×CE):=[]
theorem cons43_ok:ConL Try.prog cons43:=trivial
noncomputable def ce43:CE:=⟨[(.tmp 0 false [(.dat (.list (.pair .str (.pair .str (.pair .str (.pair uI6 (.pair uI6 (.pair uI6 (.pair uI6 (.pair uI6 (.pair uI6 .bool)))))))))))])],[(.tmp 0 false [dI])],billing_openCount⟩
theorem con43:ConOk Try.prog 43 ce43 :=
 tree_ok (plan:=planOf plan43) (eg:=egNo) KK tabL_ok (conOf_ok cons43_ok) Try.func43 (by kernel_rfl) (by kernel_rfl) 10000 (fun a r h=>Eq.trans (show _=billing_openCount a from by kernel_rfl) h)
def plan55:List (Nat×PL):=[(262657,(.carry [])),(134480385,(.carry []))]
noncomputable def billing_validBill:((LU×(LU×(LU×(Int×(Int×(Int×(Int×(Int×(Int×Bool)))))))))×Int)→Option Bool:=fun ((a1,(a2,(a3,(a4,(a5,(a6,(a7,(a8,(a9,a10))))))))),a11) =>
 joinO (bindO (billing_within ((((List.length a1):Nat):Int),((1:Int),(200:Int)))) fun x12 =>
 bif (!x12) then
 outO (some Bool.false)
 else
 bif (decide ((((List.length a2):Nat):Int) > (200:Int))) then
 outO (some Bool.false)
 else
 bif (decide ((((List.length a3):Nat):Int) > (200:Int))) then
 outO (some Bool.false)
 else
 some (Sum.inl ())) fun _ =>
 joinO (bindO (billing_within (a4,((0:Int),a11))) fun x13 =>
 bif (!x13) then
 outO (some Bool.false)
 else
 bif (decide (a5≠(-1:Int))) then
 bindO (billing_within (a5,(a4,a11))) fun x14 =>
 bif (!x14) then
 outO (some Bool.false)
 else
 some (Sum.inl ())
 else
 some (Sum.inl ())) fun _ =>
 bindO (billing_within (a6,((maxA a4 a5),a11))) fun x15 =>
 bif (!x15) then
 some Bool.false
 else
 bif (decide (a7=(0:Int))) then
 bif (decide (a8=(0:Int))) then
 bif (decide (a9=(0:Int))) then
 some (!a10)
 else
 some Bool.false
 else
 some Bool.false
 else
 bif (decide (a5≠(-1:Int))) then
 bif (decide (a9≥(0:Int))) then
 bindO (rating_Seconds (a5,a6)) fun x16 =>
 some (decide (a8=x16))
 else
 some Bool.false
 else
 some Bool.false
noncomputable def ce76:CE:=⟨[(.tmp 0 false [dI]),(.tmp 1 false [dI])],[(.tmp 0 false [dI])],rating_Seconds⟩
noncomputable def cons55:List (Nat×CE):=[(76,ce76),(41,ce41)]
theorem cons55_ok:ConL Try.prog cons55:=⟨con76,con41,trivial⟩
noncomputable def ce55:CE:=⟨[(.tmp 0 true [dS,dS,dS,dI,dI,dI,dI,dI,dI,dO]),(.tmp 1 false [dI])],[(.tmp 0 false [dO])],billing_validBill⟩
theorem con55:ConOk Try.prog 55 ce55 :=
 tree_ok (plan:=planOf plan55) (eg:=egNo) KK tabL_ok (conOf_ok cons55_ok) Try.func55 (by kernel_rfl) (by kernel_rfl) 10000 (fun a r h=>Eq.trans (show _=billing_validBill a from by kernel_rfl) h)
def plan12:List (Nat×PL):=[(262657,(.carry [])),(18049651735527937,(.carry [.drop 4])),(2422583247133816450713606,(.carry [.tmp 31 false [dI],.tmp 4 false [dI]]))]
noncomputable def billing_Valid:(LN×(Int×(Int×((List (LU×(LU×(LU×(Int×(Int×(Int×(Int×(Int×(Int×Bool))))))))))×(Int×Int)))))→Option Bool:=fun (a1,(a2,(a3,(a4,(a5,a6))))) =>
 joinO (bindO (journal_Valid (a1,(a2,a3))) fun x7 =>
 bif (!x7) then
 outO (some Bool.false)
 else
 bindO (billing_within (a6,((0:Int),(1099511627776:Int)))) fun x8 =>
 bif (!x8) then
 outO (some Bool.false)
 else
 bindO (billing_within (a5,((0:Int),(1048576:Int)))) fun x9 =>
 bif (!x9) then
 outO (some Bool.false)
 else
 some (Sum.inl ())) fun _ =>
 bindO (billing_openCount a4) fun x10 =>
 bif (decide (x10 > (256:Int))) then
 some Bool.false
 else
 joinO (loopO (fun (v11,v12) =>
 bif (decide (v11<(((List.length a4):Nat):Int))) then
 bif (decide (((0:Int)≤v11)∧(v11<(((List.length a4):Nat):Int)))) then
 bindO a4[(Int.toNat v11)]? fun x13 =>
 bindO (billing_validBill ((x13.1,(x13.2.1,(x13.2.2.1,(x13.2.2.2.1,(x13.2.2.2.2.1,(x13.2.2.2.2.2.1,(x13.2.2.2.2.2.2.1,(x13.2.2.2.2.2.2.2.1,(x13.2.2.2.2.2.2.2.2.1,x13.2.2.2.2.2.2.2.2.2))))))))),a6)) fun x14 =>
 bif (!x14) then
 outO (outO (some Bool.false))
 else
 bif (decide (v11<x10)) then
 bif (decide (v11 > (0:Int))) then
 bindO (some (Go.IntKind.wrap .i64 (v11-(1:Int)))) fun x15 =>
 bif (decide (((0:Int)≤x15)∧(x15<(((List.length a4):Nat):Int)))) then
 bindO a4[(Int.toNat x15)]? fun x16 =>
 bif (!(Go.Op.bytesLess x16.1 x13.1)) then
 outO (outO (some Bool.false))
 else
 some (Sum.inl ((Go.IntKind.wrap .i64 (v11+(1:Int))),v12))
 else none
 else
 some (Sum.inl ((Go.IntKind.wrap .i64 (v11+(1:Int))),v12))
 else
 bindO (billing_within (x13.2.2.2.2.2.2.1,((Go.IntKind.wrap .i64 (v12+(1:Int))),a5))) fun x20 =>
 bif (!x20) then
 outO (outO (some Bool.false))
 else
 some (Sum.inl ((Go.IntKind.wrap .i64 (v11+(1:Int))),x13.2.2.2.2.2.2.1))
 else none
 else
 outO (some (Sum.inl ()))) ((0:Int),(0:Int))) fun _ =>
 some Bool.true
noncomputable def cej54:CE:=⟨[(.tmp 0 true [dY,dI,dI])],[(.tmp 0 false [dO])],journal_Valid⟩
noncomputable def cons12:List (Nat×CE):=[(54,cej54),(41,ce41),(43,ce43),(55,ce55)]
theorem cons12_ok:ConL Try.prog cons12:=⟨conj54,con41,con43,con55,trivial⟩
noncomputable def ce12:CE:=⟨[(.tmp 0 true [dY,dI,dI,(.dat (.list (.pair .str (.pair .str (.pair .str (.pair uI6 (.pair uI6 (.pair uI6 (.pair uI6 (.pair uI6 (.pair uI6 .bool))))))))))),dI,dI])],[(.tmp 0 false [dO])],billing_Valid⟩
theorem con12:ConOk Try.prog 12 ce12 :=
 tree_ok (plan:=planOf plan12) (eg:=egNo) KK tabL_ok (conOf_ok cons12_ok) Try.func12 (by kernel_rfl) (by kernel_rfl) 10000 (fun a r h=>Eq.trans (show _=billing_Valid a from by kernel_rfl) h)
def plan79:List (Nat×PL):=[(134479891,(.carry [.tmp 0 false [dI]])),(18049585431970305,(.carry [.drop 6,.tmp 5 false [dI]])),(4731590523478423373830,(.carry [.tmp 6 false [dI],.tmp 5 false [dI]]))]
noncomputable def billing_place:((List (LU×(LU×(LU×(Int×(Int×(Int×(Int×(Int×(Int×Bool))))))))))×LU)→Option (Int×Bool):=fun (a1,a2) =>
 joinO (joinO (loopO (fun (v3,v4) =>
 bif (decide (v4<v3)) then
 bindO (some (Int.fdiv (Go.IntKind.wrap .u64 (Go.IntKind.wrap .i64 (v4+v3))) (2:Int))) fun x7 =>
 bif (decide (((0:Int)≤(Go.IntKind.wrap .i64 x7))∧((Go.IntKind.wrap .i64 x7)<(((List.length a1):Nat):Int)))) then
 bindO a1[(Int.toNat (Go.IntKind.wrap .i64 x7))]? fun x9 =>
 bif (!(!(Go.Op.bytesLess x9.1 a2))) then
 some (Sum.inl (v3,(Go.IntKind.wrap .i64 ((Go.IntKind.wrap .i64 x7)+(1:Int)))))
 else
 some (Sum.inl ((Go.IntKind.wrap .i64 x7),v4))
 else none
 else
 outO (some (Sum.inl v4))) ((((List.length a1):Nat):Int),(0:Int))) fun v11 =>
 some (Sum.inl v11)) fun v12 =>
 bif (decide (v12<(((List.length a1):Nat):Int))) then
 bif (decide (((0:Int)≤v12)∧(v12<(((List.length a1):Nat):Int)))) then
 bindO a1[(Int.toNat v12)]? fun x13 =>
 some (v12,(decide (x13.1=a2)))
 else none
 else
 some (v12,Bool.false)
noncomputable def cons79:List (Nat×CE):=[]
theorem cons79_ok:ConL Try.prog cons79:=trivial
noncomputable def ce79:CE:=⟨[(.tmp 0 false [(.dat (.list (.pair .str (.pair .str (.pair .str (.pair uI6 (.pair uI6 (.pair uI6 (.pair uI6 (.pair uI6 (.pair uI6 .bool)))))))))))]),(.tmp 1 false [dS])],[(.tmp 0 false [dI]),(.tmp 1 false [dO])],billing_place⟩
theorem con79:ConOk Try.prog 79 ce79 :=
 tree_ok (plan:=planOf plan79) (eg:=egNo) KK tabL_ok (conOf_ok cons79_ok) Try.func79 (by kernel_rfl) (by kernel_rfl) 10000 (fun a r h=>Eq.trans (show _=billing_place a from by kernel_rfl) h)
def plan42:List (Nat×PL):=[]
noncomputable def billing_find:((LN×(Int×(Int×((List (LU×(LU×(LU×(Int×(Int×(Int×(Int×(Int×(Int×Bool))))))))))×(Int×Int)))))×LU)→Option (Int×Bool):=fun ((a1,(a2,(a3,(a4,(a5,a6))))),a7) =>
 bindO (billing_openCount a4) fun x8 =>
 bif (decide (((0:Int)≤x8)∧(x8≤(((List.length a4):Nat):Int)))) then
 bindO (billing_place ((List.take (Int.toNat x8) a4),a7)) fun (x11,x12) =>
 some (x11,x12)
 else none
noncomputable def cons42:List (Nat×CE):=[(43,ce43),(79,ce79)]
theorem cons42_ok:ConL Try.prog cons42:=⟨con43,con79,trivial⟩
noncomputable def ce42:CE:=⟨[(.tmp 0 true [dY,dI,dI,(.dat (.list (.pair .str (.pair .str (.pair .str (.pair uI6 (.pair uI6 (.pair uI6 (.pair uI6 (.pair uI6 (.pair uI6 .bool))))))))))),dI,dI]),(.tmp 1 false [dS])],[(.tmp 0 false [dI]),(.tmp 1 false [dO])],billing_find⟩
theorem con42:ConOk Try.prog 42 ce42 :=
 tree_ok (plan:=planOf plan42) (eg:=egNo) KK tabL_ok (conOf_ok cons42_ok) Try.func42 (by kernel_rfl) (by kernel_rfl) 10000 (fun a r h=>Eq.trans (show _=billing_find a from by kernel_rfl) h)
def plan45:List (Nat×PL):=[(134480385,(.carry [.tmp 5 false [(.own 10000006 5 uI8)]])),(18049651601311750,(.carry [.tmp 13 false [dI],.tmp 5 false [(.own 10000005 5 uI8)]])),(68853957121,(.carry [.tmp 5 false [(.own 10000003 5 uI8)],.dead 10000006])),(2422583229119624904966657,(.carry [.tmp 8 false [dI],.tmp 5 false [(.own 10000004 5 uI8)],.tmp 7 false [dI],.dead 10000005])),(9241421688456087558,(.carry [.tmp 32 false [dI],.tmp 5 false [(.own 10000001 5 uI8)],.dead 10000006])),(85237069749509028565965992133042374662,(.carry [.tmp 8 false [dI],.tmp 5 false [(.own 10000002 5 uI8)],.dead 10000005]))]
noncomputable def billing_data:(LN×(List LU))→Option LN:=fun (a1,a2) =>
 joinO (loopO (fun (v3,v4) =>
 bif (decide (v3<(((List.length a1):Nat):Int))) then
 joinO (bif (decide (((0:Int)≤v3)∧(v3<(((List.length a1):Nat):Int)))) then
 bindO a1[(Int.toNat v3)]? fun x5 =>
 bif (decide ((List.length v4)≤(List.length v4))) then
 loopO (fun (v6,v7) =>
 bif (decide (v6≥(0:Int))) then
 bif (decide ((0:Int)≤v6)) then
 bindO (some (Int.fdiv (Go.IntKind.wrap .u64 x5) ((2:Int) ^ (Min.min (Int.toNat v6) 64)))) fun x9 =>
 bif (decide ((List.length v7)≤(List.length v7))) then
 bif (decide (((List.length ((List.take (List.length v7) v7)++((Go.IntKind.wrap .u8 x9)::([]:List Int))))*1)≤140737488355328)) then
 bindO (some ((List.take (List.length v7) v7)++((Go.IntKind.wrap .u8 x9)::([]:List Int)))) fun x11 =>
 bif (decide ((List.length x11)≤(List.length x11))) then
 some (Sum.inl ((Go.IntKind.wrap .i64 (v6-(8:Int))),(List.take (List.length x11) x11)))
 else none
 else none
 else none
 else none
 else
 outO (bif (decide ((List.length v7)≤(List.length v7))) then
 some (Sum.inl (v6,((List.take (List.length v7) v7),x5)))
 else none)) ((56:Int),(List.take (List.length v4) v4))
 else none
 else none) fun (v13,(v14,v15)) =>
 bif (decide ((List.length v14)≤(List.length v14))) then
 some (Sum.inl ((Go.IntKind.wrap .i64 (v3+(1:Int))),(List.take (List.length v14) v14)))
 else none
 else
 outO (bif (decide ((List.length v4)≤(List.length v4))) then
 some (Sum.inl (List.take (List.length v4) v4))
 else none)) ((0:Int),([]:List Int))) fun v17 =>
 joinO (bif (decide ((List.length v17)≤(List.length v17))) then
 loopO (fun (v18,v19) =>
 bif (decide (v18<(((List.length a2):Nat):Int))) then
 bif (decide (((0:Int)≤v18)∧(v18<(((List.length a2):Nat):Int)))) then
 bindO a2[(Int.toNat v18)]? fun x20 =>
 bindO (some (Int.fdiv (((List.length x20):Nat):Int) (256:Int))) fun x21 =>
 bindO (some (Go.IntKind.wrap .u8 (((List.length x20):Nat):Int))) fun x23 =>
 bif (decide ((List.length v19)≤(List.length v19))) then
 bif (decide (((List.length ((List.take (List.length v19) v19)++((Go.IntKind.wrap .u8 x21)::(x23::([]:List Int)))))*1)≤140737488355328)) then
 bindO (some ((List.take (List.length v19) v19)++((Go.IntKind.wrap .u8 x21)::(x23::([]:List Int))))) fun x24 =>
 bif (decide ((List.length x24)≤(List.length x24))) then
 bif (decide (((List.length ((List.take (List.length x24) x24)++(List.map (fun (x25:UInt8)=>(((UInt8.toNat x25):Nat):Int)) x20)))*1)≤140737488355328)) then
 bindO (some ((List.take (List.length x24) x24)++(List.map (fun (x27:UInt8)=>(((UInt8.toNat x27):Nat):Int)) x20))) fun x26 =>
 bif (decide ((List.length x26)≤(List.length x26))) then
 some (Sum.inl ((Go.IntKind.wrap .i64 (v18+(1:Int))),(List.take (List.length x26) x26)))
 else none
 else none
 else none
 else none
 else none
 else none
 else
 outO (bif (decide ((List.length v19)≤(List.length v19))) then
 some (Sum.inl (List.take (List.length v19) v19))
 else none)) ((0:Int),(List.take (List.length v17) v17))
 else none) fun v29 =>
 bif (decide ((List.length v29)≤(List.length v29))) then
 some (List.take (List.length v29) v29)
 else none
noncomputable def cons45:List (Nat×CE):=[]
theorem cons45_ok:ConL Try.prog cons45:=trivial
noncomputable def ce45:CE:=⟨[(.tmp 0 false [(.dat (.list uI6))]),(.tmp 1 false [(.dat (.list .str))])],[(.tmp 0 false [dY])],billing_data⟩
theorem con45:ConOk Try.prog 45 ce45 :=
 tree_ok (plan:=planOf plan45) (eg:=egNo) KK tabL_ok (conOf_ok cons45_ok) Try.func45 (by kernel_rfl) (by kernel_rfl) 10000 (fun a r h=>Eq.trans (show _=billing_data a from by kernel_rfl) h)
def plan44:List (Nat×PL):=[]
noncomputable def billing_write:((LN×(Int×Int))×(Int×LN))→Option ((LN×(Int×Int))×Int):=fun ((a1,(a2,a3)),(a4,a5)) =>
 bif (decide (a3≥(1048576:Int))) then
 some ((([]:List Int),((0:Int),(0:Int))),(10:Int))
 else
 bindO (journal_Append ((a1,(a2,a3)),(a4,a5))) fun ((x7,(x8,x9)),x10) =>
 some ((x7,(x8,x9)),x10)
noncomputable def cej30:CE:=⟨[(.tmp 0 true [dY,dI,dI]),(.tmp 1 true [dE8,dY])],[(.tmp 0 true [dY,dI,dI]),(.tmp 1 false [dE8])],journal_Append⟩
noncomputable def cons44:List (Nat×CE):=[(30,cej30)]
theorem cons44_ok:ConL Try.prog cons44:=⟨conj30,trivial⟩
noncomputable def ce44:CE:=⟨[(.tmp 0 true [dY,dI,dI]),(.tmp 1 false [dE8]),(.tmp 2 false [dY])],[(.tmp 0 true [dY,dI,dI]),(.tmp 1 false [dE8])],billing_write⟩
theorem con44:ConOk Try.prog 44 ce44 :=
 tree_ok (plan:=planOf plan44) (eg:=egNo) KK tabL_ok (conOf_ok cons44_ok) Try.func44 (by kernel_rfl) (by kernel_rfl) 10000 (fun a r h=>Eq.trans (show _=billing_write a from by kernel_rfl) h)
def plan48:List (Nat×PL):=[]
noncomputable def billing_begun:(Int×(LU×(LU×LU)))→Option (LU×(LU×(LU×(Int×(Int×(Int×(Int×(Int×(Int×Bool))))))))):=fun (a1,(a2,(a3,a4))) =>
 some (a2,(a3,(a4,(a1,((-1:Int),(a1,((0:Int),((0:Int),((0:Int),Bool.false)))))))))
noncomputable def cons48:List (Nat×CE):=[]
theorem cons48_ok:ConL Try.prog cons48:=trivial
noncomputable def ce48:CE:=⟨[(.tmp 0 false [dI]),(.tmp 1 false [dS]),(.tmp 2 false [dS]),(.tmp 3 false [dS])],[(.tmp 0 true [dS,dS,dS,dI,dI,dI,dI,dI,dI,dO])],billing_begun⟩
theorem con48:ConOk Try.prog 48 ce48 :=
 tree_ok (plan:=planOf plan48) (eg:=egNo) KK tabL_ok (conOf_ok cons48_ok) Try.func48 (by kernel_rfl) (by kernel_rfl) 10000 (fun a r h=>Eq.trans (show _=billing_begun a from by kernel_rfl) h)
def plan10:List (Nat×PL):=[(262657,(.carry []))]
noncomputable def billing_Begin:((LN×(Int×(Int×((List (LU×(LU×(LU×(Int×(Int×(Int×(Int×(Int×(Int×Bool))))))))))×(Int×Int)))))×(LU×(LU×(LU×(Int×(Int×(Int×(Int×(Int×(Int×Bool))))))))))→Option ((LN×(Int×(Int×((List (LU×(LU×(LU×(Int×(Int×(Int×(Int×(Int×(Int×Bool))))))))))×(Int×Int)))))×Int):=fun ((a1,(a2,(a3,(a4,(a5,a6))))),(a7,(a8,(a9,(a10,(a11,(a12,(a13,(a14,(a15,a16)))))))))) =>
 joinO (bindO (billing_Valid (a1,(a2,(a3,(a4,(a5,a6)))))) fun x17 =>
 bif (!x17) then
 outO (some ((([]:List Int),((0:Int),((0:Int),(([]:List (LU×(LU×(LU×(Int×(Int×(Int×(Int×(Int×(Int×Bool)))))))))),((0:Int),(0:Int)))))),(2:Int)))
 else
 bindO (billing_within (a10,(a6,(1099511627776:Int)))) fun x18 =>
 bif (!x18) then
 outO (some ((([]:List Int),((0:Int),((0:Int),(([]:List (LU×(LU×(LU×(Int×(Int×(Int×(Int×(Int×(Int×Bool)))))))))),((0:Int),(0:Int)))))),(2:Int)))
 else
 bindO (billing_within ((((List.length a7):Nat):Int),((1:Int),(200:Int)))) fun x19 =>
 bif (!x19) then
 outO (some ((([]:List Int),((0:Int),((0:Int),(([]:List (LU×(LU×(LU×(Int×(Int×(Int×(Int×(Int×(Int×Bool)))))))))),((0:Int),(0:Int)))))),(2:Int)))
 else
 bif (decide ((((List.length a8):Nat):Int) > (200:Int))) then
 outO (some ((([]:List Int),((0:Int),((0:Int),(([]:List (LU×(LU×(LU×(Int×(Int×(Int×(Int×(Int×(Int×Bool)))))))))),((0:Int),(0:Int)))))),(2:Int)))
 else
 bif (decide ((((List.length a9):Nat):Int) > (200:Int))) then
 outO (some ((([]:List Int),((0:Int),((0:Int),(([]:List (LU×(LU×(LU×(Int×(Int×(Int×(Int×(Int×(Int×Bool)))))))))),((0:Int),(0:Int)))))),(2:Int)))
 else
 some (Sum.inl ())) fun _ =>
 bindO (billing_find ((a1,(a2,(a3,(a4,(a5,a6))))),a7)) fun (x21,x22) =>
 bif x22 then
 some ((([]:List Int),((0:Int),((0:Int),(([]:List (LU×(LU×(LU×(Int×(Int×(Int×(Int×(Int×(Int×Bool)))))))))),((0:Int),(0:Int)))))),(7:Int))
 else
 bindO (billing_openCount a4) fun x23 =>
 bif (decide (x23≥(256:Int))) then
 some ((([]:List Int),((0:Int),((0:Int),(([]:List (LU×(LU×(LU×(Int×(Int×(Int×(Int×(Int×(Int×Bool)))))))))),((0:Int),(0:Int)))))),(10:Int))
 else
 bindO (billing_data ((a10::([]:List Int)),(a7::(a8::(a9::([]:List LU)))))) fun x24 =>
 bindO (billing_write ((a1,(a2,a3)),((1:Int),x24))) fun ((x26,(x27,x28)),x29) =>
 bif (decide (x29≠(0:Int))) then
 some ((([]:List Int),((0:Int),((0:Int),(([]:List (LU×(LU×(LU×(Int×(Int×(Int×(Int×(Int×(Int×Bool)))))))))),((0:Int),(0:Int)))))),x29)
 else
 bindO (cloneG a4) fun x30 =>
 bindO (billing_begun (a10,(a7,(a8,a9)))) fun (x32,(x33,(x34,(x35,(x36,(x37,(x38,(x39,(x40,x41))))))))) =>
 bif ((decide ((List.length x30)=(List.length x30)))&&Bool.true) then
 bindO (insG (x30,(x21,((x32,(x33,(x34,(x35,(x36,(x37,(x38,(x39,(x40,x41)))))))))::([]:List (LU×(LU×(LU×(Int×(Int×(Int×(Int×(Int×(Int×Bool)))))))))))))) fun x42 =>
 bif (decide ((List.length x42)≤(List.length x42))) then
 some ((x26,(x27,(x28,((List.take (List.length x42) x42),(a5,a10))))),(0:Int))
 else none
 else none
noncomputable def ce_clone_con47:CE:=⟨[.tmp 0 false [.dat (.list UBl)]],[.tmp 0 false [.own 1 29 UBl]],cloneG⟩
noncomputable def ce_clone_conm47:CE:=⟨[.tmp 0 false [.own 20000001 29 UBl]],[.tmp 0 false [.own 20000002 29 UBl]],cloneG⟩
noncomputable def ce_ins_con:CE:=⟨[.tmp 0 false [.own 20000001 29 UBl],.tmp 1 false [.dat uI6],.tmp 2 false [.own 20000002 29 UBl]],[.tmp 0 false [.own 20000003 29 UBl],.dead 20000001],insG⟩
noncomputable def cons10:List (Nat×CE):=[(47,ce_clone_con47),(1000000047,ce_clone_conm47),(1000000046,ce_ins_con),(41,ce41),(43,ce43),(12,ce12),(42,ce42),(45,ce45),(44,ce44),(48,ce48)]
theorem cons10_ok:ConL Try.prog cons10:=⟨clone_con47,clone_conm47,ins_con,con41,con43,con12,con42,con45,con44,con48,trivial⟩
noncomputable def ce10:CE:=⟨[(.tmp 0 true [dY,dI,dI,(.dat (.list (.pair .str (.pair .str (.pair .str (.pair uI6 (.pair uI6 (.pair uI6 (.pair uI6 (.pair uI6 (.pair uI6 .bool))))))))))),dI,dI]),(.tmp 1 true [dS,dS,dS,dI,dI,dI,dI,dI,dI,dO])],[(.tmp 0 true [dY,dI,dI,(.dat (.list (.pair .str (.pair .str (.pair .str (.pair uI6 (.pair uI6 (.pair uI6 (.pair uI6 (.pair uI6 (.pair uI6 .bool))))))))))),dI,dI]),(.tmp 1 false [dE8])],billing_Begin⟩
theorem con10:ConOk Try.prog 10 ce10 :=
 tree_ok (plan:=planOf plan10) (eg:=egNo) KK tabL_ok (conOf_ok cons10_ok) Try.func10 (by kernel_rfl) (by kernel_rfl) 10000 (fun a r h=>Eq.trans (show _=billing_Begin a from by kernel_rfl) h)
def plan60:List (Nat×PL):=[]
noncomputable def billing_touch:((LN×(Int×(Int×((List (LU×(LU×(LU×(Int×(Int×(Int×(Int×(Int×(Int×Bool))))))))))×(Int×Int)))))×(Int×(LU×Int)))→Option ((LN×(Int×(Int×((List (LU×(LU×(LU×(Int×(Int×(Int×(Int×(Int×(Int×Bool))))))))))×(Int×Int)))))×Int):=fun ((a1,(a2,(a3,(a4,(a5,a6))))),(a7,(a8,a9))) =>
 bindO (billing_Valid (a1,(a2,(a3,(a4,(a5,a6)))))) fun x10 =>
 bif (!x10) then
 some ((([]:List Int),((0:Int),((0:Int),(([]:List (LU×(LU×(LU×(Int×(Int×(Int×(Int×(Int×(Int×Bool)))))))))),((0:Int),(0:Int)))))),(2:Int))
 else
 bindO (billing_within (a9,(a6,(1099511627776:Int)))) fun x11 =>
 bif (!x11) then
 some ((([]:List Int),((0:Int),((0:Int),(([]:List (LU×(LU×(LU×(Int×(Int×(Int×(Int×(Int×(Int×Bool)))))))))),((0:Int),(0:Int)))))),(2:Int))
 else
 bindO (billing_find ((a1,(a2,(a3,(a4,(a5,a6))))),a8)) fun (x13,x14) =>
 bif (!x14) then
 some ((([]:List Int),((0:Int),((0:Int),(([]:List (LU×(LU×(LU×(Int×(Int×(Int×(Int×(Int×(Int×Bool)))))))))),((0:Int),(0:Int)))))),(8:Int))
 else
 bif (decide (a7=(2:Int))) then
 bif (decide (((0:Int)≤x13)∧(x13<(((List.length a4):Nat):Int)))) then
 bindO a4[(Int.toNat x13)]? fun x15 =>
 bif (decide (x15.2.2.2.2.1≠(-1:Int))) then
 some ((([]:List Int),((0:Int),((0:Int),(([]:List (LU×(LU×(LU×(Int×(Int×(Int×(Int×(Int×(Int×Bool)))))))))),((0:Int),(0:Int)))))),(9:Int))
 else
 bindO (billing_data ((a9::([]:List Int)),(a8::([]:List LU)))) fun x16 =>
 bindO (billing_write ((a1,(a2,a3)),(a7,x16))) fun ((x18,(x19,x20)),x21) =>
 bif (decide (x21≠(0:Int))) then
 some ((([]:List Int),((0:Int),((0:Int),(([]:List (LU×(LU×(LU×(Int×(Int×(Int×(Int×(Int×(Int×Bool)))))))))),((0:Int),(0:Int)))))),x21)
 else
 bindO (cloneG a4) fun x22 =>
 bif (decide (((0:Int)≤x13)∧(x13<(((List.length x22):Nat):Int)))) then
 bindO x22[(Int.toNat x13)]? fun x23 =>
 bif (decide (a7=(2:Int))) then
 bif (decide (((0:Int)≤x13)∧(x13<(((List.length x22):Nat):Int)))) then
 bindO (List.set x22 (Int.toNat x13) (x23.1,(x23.2.1,(x23.2.2.1,(x23.2.2.2.1,(x23.2.2.2.2.1,(a9,(x23.2.2.2.2.2.2.1,(x23.2.2.2.2.2.2.2.1,(x23.2.2.2.2.2.2.2.2.1,x23.2.2.2.2.2.2.2.2.2))))))))))[(Int.toNat x13)]? fun x24 =>
 bif (decide ((List.length x22)≤(List.length (List.set (List.set x22 (Int.toNat x13) (x23.1,(x23.2.1,(x23.2.2.1,(x23.2.2.2.1,(x23.2.2.2.2.1,(a9,(x23.2.2.2.2.2.2.1,(x23.2.2.2.2.2.2.2.1,(x23.2.2.2.2.2.2.2.2.1,x23.2.2.2.2.2.2.2.2.2)))))))))) (Int.toNat x13) (x24.1,(x24.2.1,(x24.2.2.1,(x24.2.2.2.1,(a9,(x24.2.2.2.2.2.1,(x24.2.2.2.2.2.2.1,(x24.2.2.2.2.2.2.2.1,(x24.2.2.2.2.2.2.2.2.1,x24.2.2.2.2.2.2.2.2.2))))))))))))) then
 some ((x18,(x19,(x20,((List.take (List.length x22) (List.set (List.set x22 (Int.toNat x13) (x23.1,(x23.2.1,(x23.2.2.1,(x23.2.2.2.1,(x23.2.2.2.2.1,(a9,(x23.2.2.2.2.2.2.1,(x23.2.2.2.2.2.2.2.1,(x23.2.2.2.2.2.2.2.2.1,x23.2.2.2.2.2.2.2.2.2)))))))))) (Int.toNat x13) (x24.1,(x24.2.1,(x24.2.2.1,(x24.2.2.2.1,(a9,(x24.2.2.2.2.2.1,(x24.2.2.2.2.2.2.1,(x24.2.2.2.2.2.2.2.1,(x24.2.2.2.2.2.2.2.2.1,x24.2.2.2.2.2.2.2.2.2))))))))))),(a5,a9))))),(0:Int))
 else none
 else none
 else
 bif (decide ((List.length x22)≤(List.length (List.set x22 (Int.toNat x13) (x23.1,(x23.2.1,(x23.2.2.1,(x23.2.2.2.1,(x23.2.2.2.2.1,(a9,(x23.2.2.2.2.2.2.1,(x23.2.2.2.2.2.2.2.1,(x23.2.2.2.2.2.2.2.2.1,x23.2.2.2.2.2.2.2.2.2))))))))))))) then
 some ((x18,(x19,(x20,((List.take (List.length x22) (List.set x22 (Int.toNat x13) (x23.1,(x23.2.1,(x23.2.2.1,(x23.2.2.2.1,(x23.2.2.2.2.1,(a9,(x23.2.2.2.2.2.2.1,(x23.2.2.2.2.2.2.2.1,(x23.2.2.2.2.2.2.2.2.1,x23.2.2.2.2.2.2.2.2.2))))))))))),(a5,a9))))),(0:Int))
 else none
 else none
 else none
 else
 bindO (billing_data ((a9::([]:List Int)),(a8::([]:List LU)))) fun x25 =>
 bindO (billing_write ((a1,(a2,a3)),(a7,x25))) fun ((x27,(x28,x29)),x30) =>
 bif (decide (x30≠(0:Int))) then
 some ((([]:List Int),((0:Int),((0:Int),(([]:List (LU×(LU×(LU×(Int×(Int×(Int×(Int×(Int×(Int×Bool)))))))))),((0:Int),(0:Int)))))),x30)
 else
 bindO (cloneG a4) fun x31 =>
 bif (decide (((0:Int)≤x13)∧(x13<(((List.length x31):Nat):Int)))) then
 bindO x31[(Int.toNat x13)]? fun x32 =>
 bif (decide (a7=(2:Int))) then
 bif (decide (((0:Int)≤x13)∧(x13<(((List.length x31):Nat):Int)))) then
 bindO (List.set x31 (Int.toNat x13) (x32.1,(x32.2.1,(x32.2.2.1,(x32.2.2.2.1,(x32.2.2.2.2.1,(a9,(x32.2.2.2.2.2.2.1,(x32.2.2.2.2.2.2.2.1,(x32.2.2.2.2.2.2.2.2.1,x32.2.2.2.2.2.2.2.2.2))))))))))[(Int.toNat x13)]? fun x33 =>
 bif (decide ((List.length x31)≤(List.length (List.set (List.set x31 (Int.toNat x13) (x32.1,(x32.2.1,(x32.2.2.1,(x32.2.2.2.1,(x32.2.2.2.2.1,(a9,(x32.2.2.2.2.2.2.1,(x32.2.2.2.2.2.2.2.1,(x32.2.2.2.2.2.2.2.2.1,x32.2.2.2.2.2.2.2.2.2)))))))))) (Int.toNat x13) (x33.1,(x33.2.1,(x33.2.2.1,(x33.2.2.2.1,(a9,(x33.2.2.2.2.2.1,(x33.2.2.2.2.2.2.1,(x33.2.2.2.2.2.2.2.1,(x33.2.2.2.2.2.2.2.2.1,x33.2.2.2.2.2.2.2.2.2))))))))))))) then
 some ((x27,(x28,(x29,((List.take (List.length x31) (List.set (List.set x31 (Int.toNat x13) (x32.1,(x32.2.1,(x32.2.2.1,(x32.2.2.2.1,(x32.2.2.2.2.1,(a9,(x32.2.2.2.2.2.2.1,(x32.2.2.2.2.2.2.2.1,(x32.2.2.2.2.2.2.2.2.1,x32.2.2.2.2.2.2.2.2.2)))))))))) (Int.toNat x13) (x33.1,(x33.2.1,(x33.2.2.1,(x33.2.2.2.1,(a9,(x33.2.2.2.2.2.1,(x33.2.2.2.2.2.2.1,(x33.2.2.2.2.2.2.2.1,(x33.2.2.2.2.2.2.2.2.1,x33.2.2.2.2.2.2.2.2.2))))))))))),(a5,a9))))),(0:Int))
 else none
 else none
 else
 bif (decide ((List.length x31)≤(List.length (List.set x31 (Int.toNat x13) (x32.1,(x32.2.1,(x32.2.2.1,(x32.2.2.2.1,(x32.2.2.2.2.1,(a9,(x32.2.2.2.2.2.2.1,(x32.2.2.2.2.2.2.2.1,(x32.2.2.2.2.2.2.2.2.1,x32.2.2.2.2.2.2.2.2.2))))))))))))) then
 some ((x27,(x28,(x29,((List.take (List.length x31) (List.set x31 (Int.toNat x13) (x32.1,(x32.2.1,(x32.2.2.1,(x32.2.2.2.1,(x32.2.2.2.2.1,(a9,(x32.2.2.2.2.2.2.1,(x32.2.2.2.2.2.2.2.1,(x32.2.2.2.2.2.2.2.2.1,x32.2.2.2.2.2.2.2.2.2))))))))))),(a5,a9))))),(0:Int))
 else none
 else none
noncomputable def cons60:List (Nat×CE):=[(47,ce_clone_con47),(1000000047,ce_clone_conm47),(41,ce41),(12,ce12),(42,ce42),(45,ce45),(44,ce44)]
theorem cons60_ok:ConL Try.prog cons60:=⟨clone_con47,clone_conm47,con41,con12,con42,con45,con44,trivial⟩
noncomputable def ce60:CE:=⟨[(.tmp 0 true [dY,dI,dI,(.dat (.list (.pair .str (.pair .str (.pair .str (.pair uI6 (.pair uI6 (.pair uI6 (.pair uI6 (.pair uI6 (.pair uI6 .bool))))))))))),dI,dI]),(.tmp 1 false [dE8]),(.tmp 2 false [dS]),(.tmp 3 false [dI])],[(.tmp 0 true [dY,dI,dI,(.dat (.list (.pair .str (.pair .str (.pair .str (.pair uI6 (.pair uI6 (.pair uI6 (.pair uI6 (.pair uI6 (.pair uI6 .bool))))))))))),dI,dI]),(.tmp 1 false [dE8])],billing_touch⟩
theorem con60:ConOk Try.prog 60 ce60 :=
 tree_ok (plan:=planOf plan60) (eg:=egNo) KK tabL_ok (conOf_ok cons60_ok) Try.func60 (by kernel_rfl) (by kernel_rfl) 10000 (fun a r h=>Eq.trans (show _=billing_touch a from by kernel_rfl) h)
def plan15:List (Nat×PL):=[]
noncomputable def billing_Answer:((LN×(Int×(Int×((List (LU×(LU×(LU×(Int×(Int×(Int×(Int×(Int×(Int×Bool))))))))))×(Int×Int)))))×(LU×Int))→Option ((LN×(Int×(Int×((List (LU×(LU×(LU×(Int×(Int×(Int×(Int×(Int×(Int×Bool))))))))))×(Int×Int)))))×Int):=fun ((a1,(a2,(a3,(a4,(a5,a6))))),(a7,a8)) =>
 bindO (billing_touch ((a1,(a2,(a3,(a4,(a5,a6))))),((2:Int),(a7,a8)))) fun ((x10,(x11,(x12,(x13,(x14,x15))))),x16) =>
 some ((x10,(x11,(x12,(x13,(x14,x15))))),x16)
noncomputable def cons15:List (Nat×CE):=[(60,ce60)]
theorem cons15_ok:ConL Try.prog cons15:=⟨con60,trivial⟩
noncomputable def ce15:CE:=⟨[(.tmp 0 true [dY,dI,dI,(.dat (.list (.pair .str (.pair .str (.pair .str (.pair uI6 (.pair uI6 (.pair uI6 (.pair uI6 (.pair uI6 (.pair uI6 .bool))))))))))),dI,dI]),(.tmp 1 false [dS]),(.tmp 2 false [dI])],[(.tmp 0 true [dY,dI,dI,(.dat (.list (.pair .str (.pair .str (.pair .str (.pair uI6 (.pair uI6 (.pair uI6 (.pair uI6 (.pair uI6 (.pair uI6 .bool))))))))))),dI,dI]),(.tmp 1 false [dE8])],billing_Answer⟩
theorem con15:ConOk Try.prog 15 ce15 :=
 tree_ok (plan:=planOf plan15) (eg:=egNo) KK tabL_ok (conOf_ok cons15_ok) Try.func15 (by kernel_rfl) (by kernel_rfl) 10000 (fun a r h=>Eq.trans (show _=billing_Answer a from by kernel_rfl) h)
def plan62:List (Nat×PL):=[(35253226045953,(.carry [.tmp 11 false [(.own 10000001 29 (.pair .str (.pair .str (.pair .str (.pair uI6 (.pair uI6 (.pair uI6 (.pair uI6 (.pair uI6 (.pair uI6 .bool))))))))))],.mix 9 [dS,dS,dS,dI,dI,dI,dI,dI,dI,dO],.mix 0 [dY,dI,dI,(.dat (.list (.pair .str (.pair .str (.pair .str (.pair uI6 (.pair uI6 (.pair uI6 (.pair uI6 (.pair uI6 (.pair uI6 .bool))))))))))),dI,dI],.dead 20]))]
noncomputable def billing_finish:((LN×(Int×(Int×((List (LU×(LU×(LU×(Int×(Int×(Int×(Int×(Int×(Int×Bool))))))))))×(Int×Int)))))×(((List (LU×(Int×(Int×(Int×(List ((Int×(Int×Int))×(Int×Int))))))))×Int)×(Int×Int)))→Option ((LN×(Int×(Int×((List (LU×(LU×(LU×(Int×(Int×(Int×(Int×(Int×(Int×Bool))))))))))×(Int×Int)))))×Int):=fun ((a1,(a2,(a3,(a4,(a5,a6))))),((a7,a8),(a9,a10))) =>
 bif (decide (((0:Int)≤a9)∧(a9<(((List.length a4):Nat):Int)))) then
 bindO a4[(Int.toNat a9)]? fun x11 =>
 bindO (cloneG a4) fun x12 =>
 bif (decide ((List.length x12)=(List.length x12))) then
 bindO (delG (x12,(a9,(Go.IntKind.wrap .i64 (a9+(1:Int)))))) fun x14 =>
 joinO (bif (decide (x11.2.2.2.2.1≠(-1:Int))) then
 bif (decide (a5≥(1048576:Int))) then
 outO (some ((([]:List Int),((0:Int),((0:Int),(([]:List (LU×(LU×(LU×(Int×(Int×(Int×(Int×(Int×(Int×Bool)))))))))),((0:Int),(0:Int)))))),(10:Int)))
 else
 bindO (some (Go.IntKind.wrap .i64 (a5+(1:Int)))) fun x15 =>
 bindO (rating_Seconds (x11.2.2.2.2.1,a10)) fun x16 =>
 bindO (rating_Cost ((a7,a8),(x11.2.2.1,(x11.2.2.2.2.1,a10)))) fun (x18,x19) =>
 bif (decide (x19=(0:Int))) then
 bif (decide ((List.length x14)≤(List.length x14))) then
 bif (decide (((List.length ((List.take (List.length x14) x14)++((x11.1,(x11.2.1,(x11.2.2.1,(x11.2.2.2.1,(x11.2.2.2.2.1,(a10,(x15,(x16,(x18,x11.2.2.2.2.2.2.2.2.2)))))))))::([]:List (LU×(LU×(LU×(Int×(Int×(Int×(Int×(Int×(Int×Bool)))))))))))))*104)≤140737488355328)) then
 bindO (some ((List.take (List.length x14) x14)++((x11.1,(x11.2.1,(x11.2.2.1,(x11.2.2.2.1,(x11.2.2.2.2.1,(a10,(x15,(x16,(x18,x11.2.2.2.2.2.2.2.2.2)))))))))::([]:List (LU×(LU×(LU×(Int×(Int×(Int×(Int×(Int×(Int×Bool))))))))))))) fun x20 =>
 bif (decide ((List.length x20)≤(List.length x20))) then
 some (Sum.inl ((List.take (List.length x20) x20),((x11.1,(x11.2.1,(x11.2.2.1,(x11.2.2.2.1,(x11.2.2.2.2.1,(a10,(x15,(x16,(x18,x11.2.2.2.2.2.2.2.2.2))))))))),(a1,(a2,(a3,(a4,(x15,a6))))))))
 else none
 else none
 else none
 else
 bif (decide ((List.length x14)≤(List.length x14))) then
 bif (decide (((List.length ((List.take (List.length x14) x14)++((x11.1,(x11.2.1,(x11.2.2.1,(x11.2.2.2.1,(x11.2.2.2.2.1,(a10,(x15,(x16,(x11.2.2.2.2.2.2.2.2.1,x11.2.2.2.2.2.2.2.2.2)))))))))::([]:List (LU×(LU×(LU×(Int×(Int×(Int×(Int×(Int×(Int×Bool)))))))))))))*104)≤140737488355328)) then
 bindO (some ((List.take (List.length x14) x14)++((x11.1,(x11.2.1,(x11.2.2.1,(x11.2.2.2.1,(x11.2.2.2.2.1,(a10,(x15,(x16,(x11.2.2.2.2.2.2.2.2.1,x11.2.2.2.2.2.2.2.2.2)))))))))::([]:List (LU×(LU×(LU×(Int×(Int×(Int×(Int×(Int×(Int×Bool))))))))))))) fun x21 =>
 bif (decide ((List.length x21)≤(List.length x21))) then
 some (Sum.inl ((List.take (List.length x21) x21),((x11.1,(x11.2.1,(x11.2.2.1,(x11.2.2.2.1,(x11.2.2.2.2.1,(a10,(x15,(x16,(x11.2.2.2.2.2.2.2.2.1,x11.2.2.2.2.2.2.2.2.2))))))))),(a1,(a2,(a3,(a4,(x15,a6))))))))
 else none
 else none
 else none
 else
 bif (decide ((List.length x14)≤(List.length x14))) then
 some (Sum.inl ((List.take (List.length x14) x14),((x11.1,(x11.2.1,(x11.2.2.1,(x11.2.2.2.1,(x11.2.2.2.2.1,(a10,(x11.2.2.2.2.2.2.1,(x11.2.2.2.2.2.2.2.1,(x11.2.2.2.2.2.2.2.2.1,x11.2.2.2.2.2.2.2.2.2))))))))),(a1,(a2,(a3,(a4,(a5,a6))))))))
 else none) fun (v22,((v23,(v24,(v25,(v26,(v27,(v28,(v29,(v30,(v31,v32))))))))),(v33,(v34,(v35,(v36,(v37,v38))))))) =>
 bindO (billing_data ((a10::(v29::(v30::(v31::([]:List Int))))),(v23::([]:List LU)))) fun x39 =>
 bindO (billing_write ((v33,(v34,v35)),((4:Int),x39))) fun ((x41,(x42,x43)),x44) =>
 bif (decide (x44≠(0:Int))) then
 some ((([]:List Int),((0:Int),((0:Int),(([]:List (LU×(LU×(LU×(Int×(Int×(Int×(Int×(Int×(Int×Bool)))))))))),((0:Int),(0:Int)))))),x44)
 else
 bif (decide ((List.length v22)≤(List.length v22))) then
 some ((x41,(x42,(x43,((List.take (List.length v22) v22),(v37,v38))))),(0:Int))
 else none
 else none
 else none
noncomputable def ce_del_con:CE:=⟨[.tmp 0 false [.own 20000001 29 UBl],.tmp 1 false [.dat uI6],.tmp 2 false [.dat uI6]],[.tmp 0 false [.own 20000003 29 UBl],.dead 20000001],delG⟩
noncomputable def ce77:CE:=⟨[(.tmp 0 true [(.dat (.list UR)),dI]),(.tmp 1 false [dS]),(.tmp 2 false [dI]),(.tmp 3 false [dI])],[(.tmp 0 false [dI]),(.tmp 1 false [dE8])],rating_Cost⟩
noncomputable def cons62:List (Nat×CE):=[(76,ce76),(47,ce_clone_con47),(1000000047,ce_clone_conm47),(1000000088,ce_del_con),(77,ce77),(45,ce45),(44,ce44)]
theorem cons62_ok:ConL Try.prog cons62:=⟨con76,clone_con47,clone_conm47,del_con,con77,con45,con44,trivial⟩
noncomputable def ce62:CE:=⟨[(.tmp 0 true [dY,dI,dI,(.dat (.list (.pair .str (.pair .str (.pair .str (.pair uI6 (.pair uI6 (.pair uI6 (.pair uI6 (.pair uI6 (.pair uI6 .bool))))))))))),dI,dI]),(.tmp 1 true [(.dat (.list (.pair .str (.pair uI6 (.pair uI6 (.pair uI6 (.list (.pair (.pair uI8 (.pair uI6 uI6)) (.pair uI6 uI6))))))))),dI]),(.tmp 2 false [dI]),(.tmp 3 false [dI])],[(.tmp 0 true [dY,dI,dI,(.dat (.list (.pair .str (.pair .str (.pair .str (.pair uI6 (.pair uI6 (.pair uI6 (.pair uI6 (.pair uI6 (.pair uI6 .bool))))))))))),dI,dI]),(.tmp 1 false [dE8])],billing_finish⟩
theorem con62:ConOk Try.prog 62 ce62 :=
 tree_ok (plan:=planOf plan62) (eg:=egNo) KK tabL_ok (conOf_ok cons62_ok) Try.func62 (by kernel_rfl) (by kernel_rfl) 10000 (fun a r h=>Eq.trans (show _=billing_finish a from by kernel_rfl) h)
def plan20:List (Nat×PL):=[(262657,(.carry []))]
noncomputable def billing_End:((LN×(Int×(Int×((List (LU×(LU×(LU×(Int×(Int×(Int×(Int×(Int×(Int×Bool))))))))))×(Int×Int)))))×(((List (LU×(Int×(Int×(Int×(List ((Int×(Int×Int))×(Int×Int))))))))×Int)×(LU×Int)))→Option ((LN×(Int×(Int×((List (LU×(LU×(LU×(Int×(Int×(Int×(Int×(Int×(Int×Bool))))))))))×(Int×Int)))))×Int):=fun ((a1,(a2,(a3,(a4,(a5,a6))))),((a7,a8),(a9,a10))) =>
 joinO (bindO (billing_Valid (a1,(a2,(a3,(a4,(a5,a6)))))) fun x11 =>
 bif (!x11) then
 outO (some ((([]:List Int),((0:Int),((0:Int),(([]:List (LU×(LU×(LU×(Int×(Int×(Int×(Int×(Int×(Int×Bool)))))))))),((0:Int),(0:Int)))))),(2:Int)))
 else
 bindO (billing_within (a10,(a6,(1099511627776:Int)))) fun x12 =>
 bif (!x12) then
 outO (some ((([]:List Int),((0:Int),((0:Int),(([]:List (LU×(LU×(LU×(Int×(Int×(Int×(Int×(Int×(Int×Bool)))))))))),((0:Int),(0:Int)))))),(2:Int)))
 else
 bindO (rating_Valid (a7,a8)) fun x13 =>
 bif (!x13) then
 outO (some ((([]:List Int),((0:Int),((0:Int),(([]:List (LU×(LU×(LU×(Int×(Int×(Int×(Int×(Int×(Int×Bool)))))))))),((0:Int),(0:Int)))))),(2:Int)))
 else
 some (Sum.inl ())) fun _ =>
 bindO (billing_find ((a1,(a2,(a3,(a4,(a5,a6))))),a9)) fun (x15,x16) =>
 bif (!x16) then
 some ((([]:List Int),((0:Int),((0:Int),(([]:List (LU×(LU×(LU×(Int×(Int×(Int×(Int×(Int×(Int×Bool)))))))))),((0:Int),(0:Int)))))),(8:Int))
 else
 bindO (billing_finish ((a1,(a2,(a3,(a4,(a5,a6))))),((a7,a8),(x15,a10)))) fun ((x18,(x19,(x20,(x21,(x22,x23))))),x24) =>
 bif (decide (x24≠(0:Int))) then
 some ((([]:List Int),((0:Int),((0:Int),(([]:List (LU×(LU×(LU×(Int×(Int×(Int×(Int×(Int×(Int×Bool)))))))))),((0:Int),(0:Int)))))),x24)
 else
 some ((x18,(x19,(x20,(x21,(x22,a10))))),(0:Int))
noncomputable def ce61:CE:=⟨[(.tmp 0 true [(.dat (.list (.pair .str (.pair uI6 (.pair uI6 (.pair uI6 (.list (.pair (.pair uI8 (.pair uI6 uI6)) (.pair uI6 uI6))))))))),dI])],[(.tmp 0 false [dO])],rating_Valid⟩
noncomputable def cons20:List (Nat×CE):=[(61,ce61),(41,ce41),(12,ce12),(42,ce42),(62,ce62)]
theorem cons20_ok:ConL Try.prog cons20:=⟨con61,con41,con12,con42,con62,trivial⟩
noncomputable def ce20:CE:=⟨[(.tmp 0 true [dY,dI,dI,(.dat (.list (.pair .str (.pair .str (.pair .str (.pair uI6 (.pair uI6 (.pair uI6 (.pair uI6 (.pair uI6 (.pair uI6 .bool))))))))))),dI,dI]),(.tmp 1 true [(.dat (.list (.pair .str (.pair uI6 (.pair uI6 (.pair uI6 (.list (.pair (.pair uI8 (.pair uI6 uI6)) (.pair uI6 uI6))))))))),dI]),(.tmp 2 false [dS]),(.tmp 3 false [dI])],[(.tmp 0 true [dY,dI,dI,(.dat (.list (.pair .str (.pair .str (.pair .str (.pair uI6 (.pair uI6 (.pair uI6 (.pair uI6 (.pair uI6 (.pair uI6 .bool))))))))))),dI,dI]),(.tmp 1 false [dE8])],billing_End⟩
theorem con20:ConOk Try.prog 20 ce20 :=
 tree_ok (plan:=planOf plan20) (eg:=egNo) KK tabL_ok (conOf_ok cons20_ok) Try.func20 (by kernel_rfl) (by kernel_rfl) 10000 (fun a r h=>Eq.trans (show _=billing_End a from by kernel_rfl) h)
def plan24:List (Nat×PL):=[(134480385,(.carry [])),(18049651601311750,(.carry [.tmp 23 false [dI]]))]
noncomputable def billing_Next:(LN×(Int×(Int×((List (LU×(LU×(LU×(Int×(Int×(Int×(Int×(Int×(Int×Bool))))))))))×(Int×Int)))))→Option ((LU×(LU×(LU×(Int×(Int×(Int×(Int×(Int×(Int×Bool)))))))))×Bool):=fun (a1,(a2,(a3,(a4,(a5,a6))))) =>
 bindO (billing_Valid (a1,(a2,(a3,(a4,(a5,a6)))))) fun x7 =>
 bif (!x7) then
 some ((([]:List UInt8),(([]:List UInt8),(([]:List UInt8),((0:Int),((0:Int),((0:Int),((0:Int),((0:Int),((0:Int),Bool.false))))))))),Bool.false)
 else
 bif (decide (a2≠(((List.length a1):Nat):Int))) then
 some ((([]:List UInt8),(([]:List UInt8),(([]:List UInt8),((0:Int),((0:Int),((0:Int),((0:Int),((0:Int),((0:Int),Bool.false))))))))),Bool.false)
 else
 joinO (loopO (fun v8 =>
 bif (decide (v8<(((List.length a4):Nat):Int))) then
 bif (decide (((0:Int)≤v8)∧(v8<(((List.length a4):Nat):Int)))) then
 bindO a4[(Int.toNat v8)]? fun x9 =>
 bif (decide (x9.2.2.2.2.2.2.1≠(0:Int))) then
 bif (!x9.2.2.2.2.2.2.2.2.2) then
 outO (outO (some ((x9.1,(x9.2.1,(x9.2.2.1,(x9.2.2.2.1,(x9.2.2.2.2.1,(x9.2.2.2.2.2.1,(x9.2.2.2.2.2.2.1,(x9.2.2.2.2.2.2.2.1,(x9.2.2.2.2.2.2.2.2.1,x9.2.2.2.2.2.2.2.2.2))))))))),Bool.true)))
 else
 some (Sum.inl (Go.IntKind.wrap .i64 (v8+(1:Int))))
 else
 some (Sum.inl (Go.IntKind.wrap .i64 (v8+(1:Int))))
 else none
 else
 outO (some (Sum.inl ()))) (0:Int)) fun _ =>
 some ((([]:List UInt8),(([]:List UInt8),(([]:List UInt8),((0:Int),((0:Int),((0:Int),((0:Int),((0:Int),((0:Int),Bool.false))))))))),Bool.false)
noncomputable def cons24:List (Nat×CE):=[(12,ce12)]
theorem cons24_ok:ConL Try.prog cons24:=⟨con12,trivial⟩
noncomputable def ce24:CE:=⟨[(.tmp 0 true [dY,dI,dI,(.dat (.list (.pair .str (.pair .str (.pair .str (.pair uI6 (.pair uI6 (.pair uI6 (.pair uI6 (.pair uI6 (.pair uI6 .bool))))))))))),dI,dI])],[(.tmp 0 true [dS,dS,dS,dI,dI,dI,dI,dI,dI,dO]),(.tmp 1 false [dO])],billing_Next⟩
theorem con24:ConOk Try.prog 24 ce24 :=
 tree_ok (plan:=planOf plan24) (eg:=egNo) KK tabL_ok (conOf_ok cons24_ok) Try.func24 (by kernel_rfl) (by kernel_rfl) 10000 (fun a r h=>Eq.trans (show _=billing_Next a from by kernel_rfl) h)
def plan22:List (Nat×PL):=[(68853956627,(.carry [.tmp 0 false [dI]])),(18049651606028801,(.carry [])),(2422583229752736638830598,(.carry [.tmp 8 false [dI]]))]
noncomputable def billing_Given:((LN×(Int×(Int×((List (LU×(LU×(LU×(Int×(Int×(Int×(Int×(Int×(Int×Bool))))))))))×(Int×Int)))))×Int)→Option ((LN×(Int×(Int×((List (LU×(LU×(LU×(Int×(Int×(Int×(Int×(Int×(Int×Bool))))))))))×(Int×Int)))))×Int):=fun ((a1,(a2,(a3,(a4,(a5,a6))))),a7) =>
 bindO (billing_Valid (a1,(a2,(a3,(a4,(a5,a6)))))) fun x8 =>
 bif (!x8) then
 some ((([]:List Int),((0:Int),((0:Int),(([]:List (LU×(LU×(LU×(Int×(Int×(Int×(Int×(Int×(Int×Bool)))))))))),((0:Int),(0:Int)))))),(2:Int))
 else
 joinO (joinO (loopO (fun v9 =>
 bif (decide (v9<(((List.length a4):Nat):Int))) then
 bif (decide (((0:Int)≤v9)∧(v9<(((List.length a4):Nat):Int)))) then
 bindO a4[(Int.toNat v9)]? fun x10 =>
 bif (decide (x10.2.2.2.2.2.2.1≠(0:Int))) then
 bif (decide (x10.2.2.2.2.2.2.1=a7)) then
 outO (outO (some (Sum.inl v9)))
 else
 some (Sum.inl (Go.IntKind.wrap .i64 (v9+(1:Int))))
 else
 some (Sum.inl (Go.IntKind.wrap .i64 (v9+(1:Int))))
 else none
 else
 outO (some (Sum.inl ()))) (0:Int)) fun _ =>
 some (Sum.inl (-1:Int))) fun v13 =>
 bif (decide (v13<(0:Int))) then
 some ((([]:List Int),((0:Int),((0:Int),(([]:List (LU×(LU×(LU×(Int×(Int×(Int×(Int×(Int×(Int×Bool)))))))))),((0:Int),(0:Int)))))),(8:Int))
 else
 bif (decide (((0:Int)≤v13)∧(v13<(((List.length a4):Nat):Int)))) then
 bindO a4[(Int.toNat v13)]? fun x14 =>
 bif x14.2.2.2.2.2.2.2.2.2 then
 some ((([]:List Int),((0:Int),((0:Int),(([]:List (LU×(LU×(LU×(Int×(Int×(Int×(Int×(Int×(Int×Bool)))))))))),((0:Int),(0:Int)))))),(9:Int))
 else
 bindO (billing_data ((a7::([]:List Int)),([]:List LU))) fun x15 =>
 bindO (billing_write ((a1,(a2,a3)),((5:Int),x15))) fun ((x17,(x18,x19)),x20) =>
 bif (decide (x20≠(0:Int))) then
 some ((([]:List Int),((0:Int),((0:Int),(([]:List (LU×(LU×(LU×(Int×(Int×(Int×(Int×(Int×(Int×Bool)))))))))),((0:Int),(0:Int)))))),x20)
 else
 bindO (cloneG a4) fun x21 =>
 bif (decide (((0:Int)≤v13)∧(v13<(((List.length x21):Nat):Int)))) then
 bindO x21[(Int.toNat v13)]? fun x22 =>
 bif (decide ((List.length x21)≤(List.length (List.set x21 (Int.toNat v13) (x22.1,(x22.2.1,(x22.2.2.1,(x22.2.2.2.1,(x22.2.2.2.2.1,(x22.2.2.2.2.2.1,(x22.2.2.2.2.2.2.1,(x22.2.2.2.2.2.2.2.1,(x22.2.2.2.2.2.2.2.2.1,Bool.true))))))))))))) then
 some ((x17,(x18,(x19,((List.take (List.length x21) (List.set x21 (Int.toNat v13) (x22.1,(x22.2.1,(x22.2.2.1,(x22.2.2.2.1,(x22.2.2.2.2.1,(x22.2.2.2.2.2.1,(x22.2.2.2.2.2.2.1,(x22.2.2.2.2.2.2.2.1,(x22.2.2.2.2.2.2.2.2.1,Bool.true))))))))))),(a5,a6))))),(0:Int))
 else none
 else none
 else none
noncomputable def cons22:List (Nat×CE):=[(47,ce_clone_con47),(1000000047,ce_clone_conm47),(12,ce12),(45,ce45),(44,ce44)]
theorem cons22_ok:ConL Try.prog cons22:=⟨clone_con47,clone_conm47,con12,con45,con44,trivial⟩
noncomputable def ce22:CE:=⟨[(.tmp 0 true [dY,dI,dI,(.dat (.list (.pair .str (.pair .str (.pair .str (.pair uI6 (.pair uI6 (.pair uI6 (.pair uI6 (.pair uI6 (.pair uI6 .bool))))))))))),dI,dI]),(.tmp 1 false [dI])],[(.tmp 0 true [dY,dI,dI,(.dat (.list (.pair .str (.pair .str (.pair .str (.pair uI6 (.pair uI6 (.pair uI6 (.pair uI6 (.pair uI6 (.pair uI6 .bool))))))))))),dI,dI]),(.tmp 1 false [dE8])],billing_Given⟩
theorem con22:ConOk Try.prog 22 ce22 :=
 tree_ok (plan:=planOf plan22) (eg:=egNo) KK tabL_ok (conOf_ok cons22_ok) Try.func22 (by kernel_rfl) (by kernel_rfl) 10000 (fun a r h=>Eq.trans (show _=billing_Given a from by kernel_rfl) h)
def plan26:List (Nat×PL):=[]
noncomputable def billing_Sync:(LN×(Int×(Int×((List (LU×(LU×(LU×(Int×(Int×(Int×(Int×(Int×(Int×Bool))))))))))×(Int×Int)))))→Option (LN×(Int×(Int×((List (LU×(LU×(LU×(Int×(Int×(Int×(Int×(Int×(Int×Bool))))))))))×(Int×Int))))):=fun (a1,(a2,(a3,(a4,(a5,a6))))) =>
 bindO (billing_Valid (a1,(a2,(a3,(a4,(a5,a6)))))) fun x7 =>
 bif (!x7) then
 some (([]:List Int),((0:Int),((0:Int),(([]:List (LU×(LU×(LU×(Int×(Int×(Int×(Int×(Int×(Int×Bool)))))))))),((0:Int),(0:Int))))))
 else
 bindO (journal_Sync (a1,(a2,a3))) fun (x9,(x10,x11)) =>
 bindO (cloneG a4) fun x12 =>
 bif (decide ((List.length x12)≤(List.length x12))) then
 some (x9,(x10,(x11,((List.take (List.length x12) x12),(a5,a6)))))
 else none
noncomputable def cej68:CE:=⟨[(.tmp 0 true [dY,dI,dI])],[(.tmp 0 true [dY,dI,dI])],journal_Sync⟩
noncomputable def cons26:List (Nat×CE):=[(68,cej68),(47,ce_clone_con47),(1000000047,ce_clone_conm47),(12,ce12)]
theorem cons26_ok:ConL Try.prog cons26:=⟨conj68,clone_con47,clone_conm47,con12,trivial⟩
noncomputable def ce26:CE:=⟨[(.tmp 0 true [dY,dI,dI,(.dat (.list (.pair .str (.pair .str (.pair .str (.pair uI6 (.pair uI6 (.pair uI6 (.pair uI6 (.pair uI6 (.pair uI6 .bool))))))))))),dI,dI])],[(.tmp 0 true [dY,dI,dI,(.dat (.list (.pair .str (.pair .str (.pair .str (.pair uI6 (.pair uI6 (.pair uI6 (.pair uI6 (.pair uI6 (.pair uI6 .bool))))))))))),dI,dI])],billing_Sync⟩
theorem con26:ConOk Try.prog 26 ce26 :=
 tree_ok (plan:=planOf plan26) (eg:=egNo) KK tabL_ok (conOf_ok cons26_ok) Try.func26 (by kernel_rfl) (by kernel_rfl) 10000 (fun a r h=>Eq.trans (show _=billing_Sync a from by kernel_rfl) h)
def plan83:List (Nat×PL):=[]
noncomputable def dialtoneref20_Append:(((List Int)×(Int×Int))×(Int×(List Int)))→Option (((List Int)×(Int×Int))×Int):=fun ((a1,(a2,a3)),(a4,a5)) =>
 bindO (dialtoneref20_Valid (a1,(a2,a3))) fun x6 =>
 bif (!x6) then
 some ((([]:List Int),((0:Int),(0:Int))),(2:Int))
 else
 bif (decide (a3=(1048576:Int))) then
 some ((([]:List Int),((0:Int),(0:Int))),(10:Int))
 else
 bindO (dialtoneref20_Encode (a3,(a4,a5))) fun (x8,x9) =>
 bif (decide (x9≠(0:Int))) then
 some ((([]:List Int),((0:Int),(0:Int))),x9)
 else
 bif (decide (((List.length a1)*1)≤140737488355328)) then
 bif (decide ((List.length a1)≤(List.length a1))) then
 bif (decide (((List.length ((List.take (List.length a1) a1)++x8))*1)≤140737488355328)) then
 bindO (some ((List.take (List.length a1) a1)++x8)) fun x11 =>
 bif (decide ((List.length x11)≤(List.length x11))) then
 some (((List.take (List.length x11) x11),(a2,(Go.IntKind.wrap .i64 (a3+(1:Int))))),(0:Int))
 else none
 else none
 else none
 else none
noncomputable def cej113:CE:=⟨[(.tmp 0 false [dI]),(.tmp 1 true [dE8,dY])],[(.tmp 0 false [dY]),(.tmp 1 false [dE8])],dialtoneref20_Encode⟩
noncomputable def cej56:CE:=⟨[(.tmp 0 true [dY,dI,dI])],[(.tmp 0 false [dO])],dialtoneref20_Valid⟩
noncomputable def cons83:List (Nat×CE):=[(113,cej113),(56,cej56)]
theorem cons83_ok:ConL Try.prog cons83:=⟨conj113,conj56,trivial⟩
noncomputable def ce83:CE:=⟨[(.tmp 0 true [dY,dI,dI]),(.tmp 1 true [dE8,dY])],[(.tmp 0 true [dY,dI,dI]),(.tmp 1 false [dE8])],dialtoneref20_Append⟩
theorem con83:ConOk Try.prog 83 ce83 :=
 tree_ok (plan:=planOf plan83) (eg:=egNo) KK tabL_ok (conOf_ok cons83_ok) Try.func83 (by kernel_rfl) (by kernel_rfl) 10000 (fun a r h=>Eq.trans (show _=dialtoneref20_Append a from by kernel_rfl) h)
def plan69:List (Nat×PL):=[]
noncomputable def dialtoneref20_Sync:((List Int)×(Int×Int))→Option ((List Int)×(Int×Int)):=fun (a1,(a2,a3)) =>
 bindO (dialtoneref20_Valid (a1,(a2,a3))) fun x4 =>
 bif (!x4) then
 some (([]:List Int),((0:Int),(0:Int)))
 else
 bif (decide (((List.length a1)*1)≤140737488355328)) then
 bif (decide ((List.length a1)≤(List.length a1))) then
 some ((List.take (List.length a1) a1),((((List.length a1):Nat):Int),a3))
 else none
 else none
noncomputable def cons69:List (Nat×CE):=[(56,cej56)]
theorem cons69_ok:ConL Try.prog cons69:=⟨conj56,trivial⟩
noncomputable def ce69:CE:=⟨[(.tmp 0 true [dY,dI,dI])],[(.tmp 0 true [dY,dI,dI])],dialtoneref20_Sync⟩
theorem con69:ConOk Try.prog 69 ce69 :=
 tree_ok (plan:=planOf plan69) (eg:=egNo) KK tabL_ok (conOf_ok cons69_ok) Try.func69 (by kernel_rfl) (by kernel_rfl) 10000 (fun a r h=>Eq.trans (show _=dialtoneref20_Sync a from by kernel_rfl) h)
def plan57:List (Nat×PL):=[(262657,(.carry [])),(134480385,(.carry []))]
noncomputable def dialtoneref38_bill:((LU×(LU×(LU×(Int×(Int×(Int×(Int×(Int×(Int×Bool)))))))))×Int)→Option Bool:=fun ((a1,(a2,(a3,(a4,(a5,(a6,(a7,(a8,(a9,a10))))))))),a11) =>
 joinO (bif (decide (a1=([]:List UInt8))) then
 outO (some Bool.false)
 else
 bif (decide ((((List.length a1):Nat):Int) > (200:Int))) then
 outO (some Bool.false)
 else
 bif (decide ((((List.length a2):Nat):Int) > (200:Int))) then
 outO (some Bool.false)
 else
 bif (decide ((((List.length a3):Nat):Int) > (200:Int))) then
 outO (some Bool.false)
 else
 bif (decide (a4<(0:Int))) then
 outO (some Bool.false)
 else
 bif (decide (a4 > a11)) then
 outO (some Bool.false)
 else
 bif (decide (a6<a4)) then
 outO (some Bool.false)
 else
 bif (decide (a6 > a11)) then
 outO (some Bool.false)
 else
 some (Sum.inl ())) fun _ =>
 joinO (bif (decide (a5≠(-1:Int))) then
 bif (decide (a5<a4)) then
 outO (some Bool.false)
 else
 bif (decide (a5 > a6)) then
 outO (some Bool.false)
 else
 some (Sum.inl ())
 else
 some (Sum.inl ())) fun _ =>
 bif (decide (a7=(0:Int))) then
 bif (decide (a8=(0:Int))) then
 bif (decide (a9=(0:Int))) then
 some (!a10)
 else
 some Bool.false
 else
 some Bool.false
 else
 bif (decide (a5≠(-1:Int))) then
 bif (decide (a9≥(0:Int))) then
 bindO (dialtoneref37_Seconds (a5,a6)) fun x12 =>
 some (decide (a8=x12))
 else
 some Bool.false
 else
 some Bool.false
noncomputable def ce85:CE:=⟨[(.tmp 0 false [dI]),(.tmp 1 false [dI])],[(.tmp 0 false [dI])],dialtoneref37_Seconds⟩
noncomputable def cons57:List (Nat×CE):=[(85,ce85)]
theorem cons57_ok:ConL Try.prog cons57:=⟨con85,trivial⟩
noncomputable def ce57:CE:=⟨[(.tmp 0 true [dS,dS,dS,dI,dI,dI,dI,dI,dI,dO]),(.tmp 1 false [dI])],[(.tmp 0 false [dO])],dialtoneref38_bill⟩
theorem con57:ConOk Try.prog 57 ce57 :=
 tree_ok (plan:=planOf plan57) (eg:=egNo) KK tabL_ok (conOf_ok cons57_ok) Try.func57 (by kernel_rfl) (by kernel_rfl) 10000 (fun a r h=>Eq.trans (show _=dialtoneref38_bill a from by kernel_rfl) h)
def plan51:List (Nat×PL):=[(134480385,(.carry [.tmp 3 false [dI]])),(35253225785350,(.carry [.tmp 3 false [dI]]))]
noncomputable def dialtoneref38_Open:(LN×(Int×(Int×((List (LU×(LU×(LU×(Int×(Int×(Int×(Int×(Int×(Int×Bool))))))))))×(Int×Int)))))→Option Int:=fun (a1,(a2,(a3,(a4,(a5,a6))))) =>
 joinO (loopO (fun v7 =>
 bif (decide (v7<(((List.length a4):Nat):Int))) then
 bif (decide (((0:Int)≤v7)∧(v7<(((List.length a4):Nat):Int)))) then
 bindO a4[(Int.toNat v7)]? fun x8 =>
 bif (decide (x8.2.2.2.2.2.2.1=(0:Int))) then
 some (Sum.inl (Go.IntKind.wrap .i64 (v7+(1:Int))))
 else
 outO (some (Sum.inl v7))
 else none
 else
 outO (some (Sum.inl v7))) (0:Int)) fun v10 =>
 some v10
noncomputable def cons51:List (Nat×CE):=[]
theorem cons51_ok:ConL Try.prog cons51:=trivial
noncomputable def ce51:CE:=⟨[(.tmp 0 true [dY,dI,dI,(.dat (.list (.pair .str (.pair .str (.pair .str (.pair uI6 (.pair uI6 (.pair uI6 (.pair uI6 (.pair uI6 (.pair uI6 .bool))))))))))),dI,dI])],[(.tmp 0 false [dI])],dialtoneref38_Open⟩
theorem con51:ConOk Try.prog 51 ce51 :=
 tree_ok (plan:=planOf plan51) (eg:=egNo) KK tabL_ok (conOf_ok cons51_ok) Try.func51 (by kernel_rfl) (by kernel_rfl) 10000 (fun a r h=>Eq.trans (show _=dialtoneref38_Open a from by kernel_rfl) h)
def plan13:List (Nat×PL):=[(262657,(.carry [])),(35253226045953,(.carry [.drop 4])),(4731607904558101301254,(.carry [.tmp 5 false [dI],.tmp 4 false [dI]]))]
noncomputable def dialtoneref38_Valid:(LN×(Int×(Int×((List (LU×(LU×(LU×(Int×(Int×(Int×(Int×(Int×(Int×Bool))))))))))×(Int×Int)))))→Option Bool:=fun (a1,(a2,(a3,(a4,(a5,a6))))) =>
 joinO (bindO (dialtoneref20_Valid (a1,(a2,a3))) fun x7 =>
 bif (!x7) then
 outO (some Bool.false)
 else
 bif (decide (a6<(0:Int))) then
 outO (some Bool.false)
 else
 bif (decide (a6 > (1099511627776:Int))) then
 outO (some Bool.false)
 else
 bif (decide (a5<(0:Int))) then
 outO (some Bool.false)
 else
 bif (decide (a5 > (1048576:Int))) then
 outO (some Bool.false)
 else
 some (Sum.inl ())) fun _ =>
 bindO (dialtoneref38_Open (a1,(a2,(a3,(a4,(a5,a6)))))) fun x8 =>
 joinO (loopO (fun (v9,v10) =>
 bif (decide (v9<(((List.length a4):Nat):Int))) then
 bif (decide (((0:Int)≤v9)∧(v9<(((List.length a4):Nat):Int)))) then
 bindO a4[(Int.toNat v9)]? fun x11 =>
 bindO (dialtoneref38_bill ((x11.1,(x11.2.1,(x11.2.2.1,(x11.2.2.2.1,(x11.2.2.2.2.1,(x11.2.2.2.2.2.1,(x11.2.2.2.2.2.2.1,(x11.2.2.2.2.2.2.2.1,(x11.2.2.2.2.2.2.2.2.1,x11.2.2.2.2.2.2.2.2.2))))))))),a6)) fun x12 =>
 bif (!x12) then
 outO (outO (some Bool.false))
 else
 bif (decide (v9<x8)) then
 bif (decide (v9 > (0:Int))) then
 bindO (some (Go.IntKind.wrap .i64 (v9-(1:Int)))) fun x13 =>
 bif (decide (((0:Int)≤x13)∧(x13<(((List.length a4):Nat):Int)))) then
 bindO a4[(Int.toNat x13)]? fun x14 =>
 bif (!(Go.Op.bytesLess x14.1 x11.1)) then
 outO (outO (some Bool.false))
 else
 some (Sum.inl ((Go.IntKind.wrap .i64 (v9+(1:Int))),v10))
 else none
 else
 some (Sum.inl ((Go.IntKind.wrap .i64 (v9+(1:Int))),v10))
 else
 bif (decide (x11.2.2.2.2.2.2.1≤v10)) then
 outO (outO (some Bool.false))
 else
 bif (decide (x11.2.2.2.2.2.2.1 > a5)) then
 outO (outO (some Bool.false))
 else
 some (Sum.inl ((Go.IntKind.wrap .i64 (v9+(1:Int))),x11.2.2.2.2.2.2.1))
 else none
 else
 outO (some (Sum.inl ()))) ((0:Int),(0:Int))) fun _ =>
 some (decide (x8≤(256:Int)))
noncomputable def cons13:List (Nat×CE):=[(56,cej56),(57,ce57),(51,ce51)]
theorem cons13_ok:ConL Try.prog cons13:=⟨conj56,con57,con51,trivial⟩
noncomputable def ce13:CE:=⟨[(.tmp 0 true [dY,dI,dI,(.dat (.list (.pair .str (.pair .str (.pair .str (.pair uI6 (.pair uI6 (.pair uI6 (.pair uI6 (.pair uI6 (.pair uI6 .bool))))))))))),dI,dI])],[(.tmp 0 false [dO])],dialtoneref38_Valid⟩
theorem con13:ConOk Try.prog 13 ce13 :=
 tree_ok (plan:=planOf plan13) (eg:=egNo) KK tabL_ok (conOf_ok cons13_ok) Try.func13 (by kernel_rfl) (by kernel_rfl) 10000 (fun a r h=>Eq.trans (show _=dialtoneref38_Valid a from by kernel_rfl) h)
def plan130:List (Nat×PL):=[(134480385,(.carry [.drop 0,.row 1 5 uI8])),(18049651601311750,(.carry [.tmp 4 false [dI],.tmp 0 false [dI],.row 1 5 uI8]))]
noncomputable def dialtoneref38_number:Int→Option LN:=fun a1 =>
 joinO (loopO (fun (v2,(v3,v4)) =>
 bif (decide (v2≥(0:Int))) then
 bif (decide (((0:Int)≤v2)∧(v2<(8:Int)))) then
 bindO v4[(Int.toNat v2)]? fun x7 =>
 some (Sum.inl ((Go.IntKind.wrap .i64 (v2-(1:Int))),((Go.IntKind.wrap .i64 (Int.tdiv v3 (256:Int))),(List.set v4 (Int.toNat v2) (Go.IntKind.wrap .u8 (Int.tmod v3 (256:Int)))))))
 else none
 else
 outO (some (Sum.inl v4))) ((7:Int),(a1,(List.replicate 8 (0:Int))))) fun v10 =>
 bif (decide (8≤(List.length v10))) then
 some (List.take 8 v10)
 else none
noncomputable def cons130:List (Nat×CE):=[]
theorem cons130_ok:ConL Try.prog cons130:=trivial
noncomputable def ce130:CE:=⟨[(.tmp 0 false [dI])],[(.tmp 0 false [dY])],dialtoneref38_number⟩
theorem con130:ConOk Try.prog 130 ce130 :=
 tree_ok (plan:=planOf plan130) (eg:=egNo) KK tabL_ok (conOf_ok cons130_ok) Try.func130 (by kernel_rfl) (by kernel_rfl) 10000 (fun a r h=>Eq.trans (show _=dialtoneref38_number a from by kernel_rfl) h)
def plan114:List (Nat×PL):=[(134480385,(.carry [.tmp 5 false [(.own 10000002 5 uI8)]])),(18049651601311750,(.carry [.tmp 6 false [dI],.tmp 5 false [(.own 10000001 5 uI8)]])),(68853957121,(.carry [.tmp 5 false [(.own 10000004 5 uI8)],.dead 10000002])),(9241421688456087558,(.carry [.tmp 7 false [dI],.tmp 5 false [(.own 10000003 5 uI8)],.dead 10000002]))]
noncomputable def dialtoneref38_data:(LN×(List LU))→Option LN:=fun (a1,a2) =>
 joinO (loopO (fun (v3,v4) =>
 bif (decide (v3<(((List.length a1):Nat):Int))) then
 bif (decide (((0:Int)≤v3)∧(v3<(((List.length a1):Nat):Int)))) then
 bindO a1[(Int.toNat v3)]? fun x5 =>
 bindO (dialtoneref38_number x5) fun x6 =>
 bif (decide ((List.length v4)≤(List.length v4))) then
 bif (decide (((List.length ((List.take (List.length v4) v4)++x6))*1)≤140737488355328)) then
 bindO (some ((List.take (List.length v4) v4)++x6)) fun x7 =>
 bif (decide ((List.length x7)≤(List.length x7))) then
 some (Sum.inl ((Go.IntKind.wrap .i64 (v3+(1:Int))),(List.take (List.length x7) x7)))
 else none
 else none
 else none
 else none
 else
 outO (bif (decide ((List.length v4)≤(List.length v4))) then
 some (Sum.inl (List.take (List.length v4) v4))
 else none)) ((0:Int),([]:List Int))) fun v9 =>
 joinO (bif (decide ((List.length v9)≤(List.length v9))) then
 loopO (fun (v10,v11) =>
 bif (decide (v10<(((List.length a2):Nat):Int))) then
 bif (decide (((0:Int)≤v10)∧(v10<(((List.length a2):Nat):Int)))) then
 bindO a2[(Int.toNat v10)]? fun x12 =>
 bindO (some (Go.IntKind.wrap .i64 (Int.tdiv (((List.length x12):Nat):Int) (256:Int)))) fun x13 =>
 bif (decide (((0:Int)≤v10)∧(v10<(((List.length a2):Nat):Int)))) then
 bindO a2[(Int.toNat v10)]? fun x15 =>
 bindO (some (Int.tmod (((List.length x15):Nat):Int) (256:Int))) fun x16 =>
 bif (decide ((List.length v11)≤(List.length v11))) then
 bif (decide (((List.length ((List.take (List.length v11) v11)++((Go.IntKind.wrap .u8 x13)::((Go.IntKind.wrap .u8 x16)::([]:List Int)))))*1)≤140737488355328)) then
 bindO (some ((List.take (List.length v11) v11)++((Go.IntKind.wrap .u8 x13)::((Go.IntKind.wrap .u8 x16)::([]:List Int))))) fun x18 =>
 bif (decide (((0:Int)≤v10)∧(v10<(((List.length a2):Nat):Int)))) then
 bindO a2[(Int.toNat v10)]? fun x19 =>
 bif (decide ((List.length x19)≤140737488355328)) then
 bif (decide ((List.length x18)≤(List.length x18))) then
 bif (decide (((List.length ((List.take (List.length x18) x18)++(List.map (fun (x20:UInt8)=>(((UInt8.toNat x20):Nat):Int)) x19)))*1)≤140737488355328)) then
 bindO (some ((List.take (List.length x18) x18)++(List.map (fun (x22:UInt8)=>(((UInt8.toNat x22):Nat):Int)) x19))) fun x21 =>
 bif (decide ((List.length x21)≤(List.length x21))) then
 some (Sum.inl ((Go.IntKind.wrap .i64 (v10+(1:Int))),(List.take (List.length x21) x21)))
 else none
 else none
 else none
 else none
 else none
 else none
 else none
 else none
 else none
 else
 outO (bif (decide ((List.length v11)≤(List.length v11))) then
 some (Sum.inl (List.take (List.length v11) v11))
 else none)) ((0:Int),(List.take (List.length v9) v9))
 else none) fun v24 =>
 bif (decide ((List.length v24)≤(List.length v24))) then
 some (List.take (List.length v24) v24)
 else none
noncomputable def cons114:List (Nat×CE):=[(130,ce130)]
theorem cons114_ok:ConL Try.prog cons114:=⟨con130,trivial⟩
noncomputable def ce114:CE:=⟨[(.tmp 0 false [(.dat (.list uI6))]),(.tmp 1 false [(.dat (.list .str))])],[(.tmp 0 false [dY])],dialtoneref38_data⟩
theorem con114:ConOk Try.prog 114 ce114 :=
 tree_ok (plan:=planOf plan114) (eg:=egAll) KK tabL_ok (conOf_ok cons114_ok) Try.func114 (by kernel_rfl) (by kernel_rfl) 10000 (fun a r h=>Eq.trans (show _=dialtoneref38_data a from by kernel_rfl) h)
def plan50:List (Nat×PL):=[(262657,(.carry [])),(35253091829766,(.carry [.tmp 5 false [dI]]))]
noncomputable def dialtoneref38_find:((LN×(Int×(Int×((List (LU×(LU×(LU×(Int×(Int×(Int×(Int×(Int×(Int×Bool))))))))))×(Int×Int)))))×LU)→Option Int:=fun ((a1,(a2,(a3,(a4,(a5,a6))))),a7) =>
 joinO (loopO (fun v8 =>
 bindO (dialtoneref38_Open (a1,(a2,(a3,(a4,(a5,a6)))))) fun x9 =>
 bif (decide (v8<x9)) then
 bif (decide (((0:Int)≤v8)∧(v8<(((List.length a4):Nat):Int)))) then
 bindO a4[(Int.toNat v8)]? fun x10 =>
 bif (decide (x10.1=a7)) then
 outO (outO (some v8))
 else
 some (Sum.inl (Go.IntKind.wrap .i64 (v8+(1:Int))))
 else none
 else
 outO (some (Sum.inl ()))) (0:Int)) fun _ =>
 some (-1:Int)
noncomputable def cons50:List (Nat×CE):=[(51,ce51)]
theorem cons50_ok:ConL Try.prog cons50:=⟨con51,trivial⟩
noncomputable def ce50:CE:=⟨[(.tmp 0 true [dY,dI,dI,(.dat (.list (.pair .str (.pair .str (.pair .str (.pair uI6 (.pair uI6 (.pair uI6 (.pair uI6 (.pair uI6 (.pair uI6 .bool))))))))))),dI,dI]),(.tmp 1 false [dS])],[(.tmp 0 false [dI])],dialtoneref38_find⟩
theorem con50:ConOk Try.prog 50 ce50 :=
 tree_ok (plan:=planOf plan50) (eg:=egNo) KK tabL_ok (conOf_ok cons50_ok) Try.func50 (by kernel_rfl) (by kernel_rfl) 10000 (fun a r h=>Eq.trans (show _=dialtoneref38_find a from by kernel_rfl) h)
def plan67:List (Nat×PL):=[(262657,(.carry [])),(35253091829766,(.carry [.tmp 5 false [dI]]))]
noncomputable def dialtoneref38_record:((LN×(Int×(Int×((List (LU×(LU×(LU×(Int×(Int×(Int×(Int×(Int×(Int×Bool))))))))))×(Int×Int)))))×Int)→Option Int:=fun ((a1,(a2,(a3,(a4,(a5,a6))))),a7) =>
 joinO (loopO (fun v8 =>
 bif (decide (v8<(((List.length a4):Nat):Int))) then
 bif (decide (a7 > (0:Int))) then
 bif (decide (((0:Int)≤v8)∧(v8<(((List.length a4):Nat):Int)))) then
 bindO a4[(Int.toNat v8)]? fun x9 =>
 bif (decide (x9.2.2.2.2.2.2.1=a7)) then
 outO (outO (some v8))
 else
 some (Sum.inl (Go.IntKind.wrap .i64 (v8+(1:Int))))
 else none
 else
 some (Sum.inl (Go.IntKind.wrap .i64 (v8+(1:Int))))
 else
 outO (some (Sum.inl ()))) (0:Int)) fun _ =>
 some (-1:Int)
noncomputable def cons67:List (Nat×CE):=[]
theorem cons67_ok:ConL Try.prog cons67:=trivial
noncomputable def ce67:CE:=⟨[(.tmp 0 true [dY,dI,dI,(.dat (.list (.pair .str (.pair .str (.pair .str (.pair uI6 (.pair uI6 (.pair uI6 (.pair uI6 (.pair uI6 (.pair uI6 .bool))))))))))),dI,dI]),(.tmp 1 false [dI])],[(.tmp 0 false [dI])],dialtoneref38_record⟩
theorem con67:ConOk Try.prog 67 ce67 :=
 tree_ok (plan:=planOf plan67) (eg:=egNo) KK tabL_ok (conOf_ok cons67_ok) Try.func67 (by kernel_rfl) (by kernel_rfl) 10000 (fun a r h=>Eq.trans (show _=dialtoneref38_record a from by kernel_rfl) h)
def plan111:List (Nat×PL):=[(68853957121,(.carry [.tmp 6 false [dI]])),(18049651735267334,(.carry [.tmp 6 false [dI]]))]
noncomputable def dialtoneref38_with:((List (LU×(LU×(LU×(Int×(Int×(Int×(Int×(Int×(Int×Bool))))))))))×(LU×(LU×(LU×(Int×(Int×(Int×(Int×(Int×(Int×Bool))))))))))→Option (List (LU×(LU×(LU×(Int×(Int×(Int×(Int×(Int×(Int×Bool)))))))))):=fun (a1,(a2,(a3,(a4,(a5,(a6,(a7,(a8,(a9,(a10,a11)))))))))) =>
 joinO (loopO (fun v12 =>
 bif (decide (v12<(((List.length a1):Nat):Int))) then
 bif (decide (((0:Int)≤v12)∧(v12<(((List.length a1):Nat):Int)))) then
 bindO a1[(Int.toNat v12)]? fun x13 =>
 bif (decide (x13.2.2.2.2.2.2.1=(0:Int))) then
 bif (decide (((0:Int)≤v12)∧(v12<(((List.length a1):Nat):Int)))) then
 bindO a1[(Int.toNat v12)]? fun x14 =>
 bif (Go.Op.bytesLess x14.1 a2) then
 some (Sum.inl (Go.IntKind.wrap .i64 (v12+(1:Int))))
 else
 outO (some (Sum.inl v12))
 else none
 else
 outO (some (Sum.inl v12))
 else none
 else
 outO (some (Sum.inl v12))) (0:Int)) fun v16 =>
 bif (decide (((0:Int)≤v16)∧(v16≤(((List.length a1):Nat):Int)))) then
 bindO (some (List.take (Int.toNat v16) a1)) fun x17 =>
 bif (decide (((List.length x17)*104)≤140737488355328)) then
 bif (decide ((List.length x17)≤(List.length x17))) then
 bif (decide (((List.length ((List.take (List.length x17) x17)++((a2,(a3,(a4,(a5,(a6,(a7,(a8,(a9,(a10,a11)))))))))::([]:List (LU×(LU×(LU×(Int×(Int×(Int×(Int×(Int×(Int×Bool)))))))))))))*104)≤140737488355328)) then
 bindO (some ((List.take (List.length x17) x17)++((a2,(a3,(a4,(a5,(a6,(a7,(a8,(a9,(a10,a11)))))))))::([]:List (LU×(LU×(LU×(Int×(Int×(Int×(Int×(Int×(Int×Bool))))))))))))) fun x19 =>
 bif (decide (((0:Int)≤v16)∧(v16≤(((List.length a1):Nat):Int)))) then
 bindO (some (List.drop (Int.toNat v16) a1)) fun x20 =>
 bif (decide ((List.length x19)≤(List.length x19))) then
 bif (decide (((List.length ((List.take (List.length x19) x19)++x20))*104)≤140737488355328)) then
 bindO (some ((List.take (List.length x19) x19)++x20)) fun x21 =>
 bif (decide ((List.length x21)≤(List.length x21))) then
 some (List.take (List.length x21) x21)
 else none
 else none
 else none
 else none
 else none
 else none
 else none
 else none
noncomputable def cons111:List (Nat×CE):=[]
theorem cons111_ok:ConL Try.prog cons111:=trivial
noncomputable def ce111:CE:=⟨[(.tmp 0 false [(.dat (.list (.pair .str (.pair .str (.pair .str (.pair uI6 (.pair uI6 (.pair uI6 (.pair uI6 (.pair uI6 (.pair uI6 .bool)))))))))))]),(.tmp 1 true [dS,dS,dS,dI,dI,dI,dI,dI,dI,dO])],[(.tmp 0 false [(.dat (.list (.pair .str (.pair .str (.pair .str (.pair uI6 (.pair uI6 (.pair uI6 (.pair uI6 (.pair uI6 (.pair uI6 .bool)))))))))))])],dialtoneref38_with⟩
theorem con111:ConOk Try.prog 111 ce111 :=
 tree_ok (plan:=planOf plan111) (eg:=egAll) KK tabL_ok (conOf_ok cons111_ok) Try.func111 (by kernel_rfl) (by kernel_rfl) 10000 (fun a r h=>Eq.trans (show _=dialtoneref38_with a from by kernel_rfl) h)
def plan84_actRecord:List (Nat×PL):=[]
noncomputable def actRecord:(Int×(Int×(Int×(Int×(Int×(LU×(LU×LU)))))))→Option (Int×LN):=fun (a1,(a2,(a3,(a4,(a5,(a6,(a7,a8))))))) =>
 bif (decide (a1=(1:Int))) then
 bindO (dialtoneref38_data ((a2::([]:List Int)),(a6::(a7::(a8::([]:List LU)))))) fun x9 =>
 some ((1:Int),x9)
 else
 bif (decide (a1=(4:Int))) then
 bindO (dialtoneref38_data ((a2::(a3::(a4::(a5::([]:List Int))))),(a6::([]:List LU)))) fun x10 =>
 some ((4:Int),x10)
 else
 bif (decide (a1=(5:Int))) then
 bindO (dialtoneref38_data ((a3::([]:List Int)),([]:List LU))) fun x11 =>
 some ((5:Int),x11)
 else
 bindO (dialtoneref38_data ((a2::([]:List Int)),(a6::([]:List LU)))) fun x12 =>
 some (a1,x12)
noncomputable def cons84_actRecord:List (Nat×CE):=[(114,ce114)]
theorem cons84_actRecord_ok:ConL Try.prog cons84_actRecord:=⟨con114,trivial⟩
noncomputable def ce84_actRecord:CE:=⟨[(.tmp 0 true [dE8,dI,dI,dI,dI,dS,dS,dS])],[(.tmp 0 true [dE8,dY])],actRecord⟩
theorem con84_actRecord:ConOk Try.prog 84 ce84_actRecord :=
 tree_ok (plan:=planOf plan84_actRecord) (eg:=egNo) KK tabL_ok (conOf_ok cons84_actRecord_ok) Try.func84 (by kernel_rfl) (by kernel_rfl) 10000 (fun a r h=>Eq.trans (show _=actRecord a from by kernel_rfl) h)
def plan82:List (Nat×PL):=[(4731607904558101300225,(.carry [])),(18049651735527937,(.carry [])),(1240362622532514091484054017,(.carry [.mix 27 [dS,dS,dS,dI,dI,dI,dI,dI,dI,dO]])),(166478653092435647486973878391276033,(.carry []))]
noncomputable def dialtoneref38_effect:((LN×(Int×(Int×((List (LU×(LU×(LU×(Int×(Int×(Int×(Int×(Int×(Int×Bool))))))))))×(Int×Int)))))×(Int×(Int×(Int×(Int×(Int×(LU×(LU×LU))))))))→Option ((LN×(Int×(Int×((List (LU×(LU×(LU×(Int×(Int×(Int×(Int×(Int×(Int×Bool))))))))))×(Int×Int)))))×Bool):=fun ((a1,(a2,(a3,(a4,(a5,a6))))),(a7,(a8,(a9,(a10,(a11,(a12,(a13,a14)))))))) =>
 bif (decide (a7=(5:Int))) then
 bindO (dialtoneref38_record ((a1,(a2,(a3,(a4,(a5,a6))))),a9)) fun x15 =>
 bif (decide (x15<(0:Int))) then
 some ((a1,(a2,(a3,(a4,(a5,a6))))),Bool.false)
 else
 bif (decide (((0:Int)≤x15)∧(x15<(((List.length a4):Nat):Int)))) then
 bindO a4[(Int.toNat x15)]? fun x16 =>
 bif x16.2.2.2.2.2.2.2.2.2 then
 some ((a1,(a2,(a3,(a4,(a5,a6))))),Bool.false)
 else
 bif (decide (((List.length a4)*104)≤140737488355328)) then
 bif (decide (((0:Int)≤x15)∧(x15<(((List.length a4):Nat):Int)))) then
 bindO a4[(Int.toNat x15)]? fun x18 =>
 bif (decide ((List.length a4)≤(List.length (List.set a4 (Int.toNat x15) (x18.1,(x18.2.1,(x18.2.2.1,(x18.2.2.2.1,(x18.2.2.2.2.1,(x18.2.2.2.2.2.1,(x18.2.2.2.2.2.2.1,(x18.2.2.2.2.2.2.2.1,(x18.2.2.2.2.2.2.2.2.1,Bool.true))))))))))))) then
 some ((a1,(a2,(a3,((List.take (List.length a4) (List.set a4 (Int.toNat x15) (x18.1,(x18.2.1,(x18.2.2.1,(x18.2.2.2.1,(x18.2.2.2.2.1,(x18.2.2.2.2.2.1,(x18.2.2.2.2.2.2.1,(x18.2.2.2.2.2.2.2.1,(x18.2.2.2.2.2.2.2.2.1,Bool.true))))))))))),(a5,a6))))),Bool.true)
 else none
 else none
 else none
 else none
 else
 bindO (dialtoneref38_find ((a1,(a2,(a3,(a4,(a5,(maxA a6 a8)))))),a12)) fun x19 =>
 bif (decide (a7=(1:Int))) then
 joinO (bif (decide (x19≥(0:Int))) then
 outO (some ((a1,(a2,(a3,(a4,(a5,(maxA a6 a8)))))),Bool.false))
 else
 bindO (dialtoneref38_Open (a1,(a2,(a3,(a4,(a5,(maxA a6 a8))))))) fun x20 =>
 bif (decide (x20≥(256:Int))) then
 outO (some ((a1,(a2,(a3,(a4,(a5,(maxA a6 a8)))))),Bool.false))
 else
 bif (decide (a12=([]:List UInt8))) then
 outO (some ((a1,(a2,(a3,(a4,(a5,(maxA a6 a8)))))),Bool.false))
 else
 bif (decide ((((List.length a12):Nat):Int) > (200:Int))) then
 outO (some ((a1,(a2,(a3,(a4,(a5,(maxA a6 a8)))))),Bool.false))
 else
 bif (decide ((((List.length a13):Nat):Int) > (200:Int))) then
 outO (some ((a1,(a2,(a3,(a4,(a5,(maxA a6 a8)))))),Bool.false))
 else
 bif (decide ((((List.length a14):Nat):Int) > (200:Int))) then
 outO (some ((a1,(a2,(a3,(a4,(a5,(maxA a6 a8)))))),Bool.false))
 else
 some (Sum.inl ())) fun _ =>
 bindO (dialtoneref38_with (a4,(a12,(a13,(a14,(a8,((-1:Int),(a8,((0:Int),((0:Int),((0:Int),Bool.false))))))))))) fun x21 =>
 some ((a1,(a2,(a3,(x21,(a5,(maxA a6 a8)))))),Bool.true)
 else
 joinO (bif (decide (x19<(0:Int))) then
 outO (some ((a1,(a2,(a3,(a4,(a5,(maxA a6 a8)))))),Bool.false))
 else
 bif (decide (((0:Int)≤x19)∧(x19<(((List.length a4):Nat):Int)))) then
 bindO a4[(Int.toNat x19)]? fun x22 =>
 bif (decide (a8<x22.2.2.2.2.2.1)) then
 outO (some ((a1,(a2,(a3,(a4,(a5,(maxA a6 a8)))))),Bool.false))
 else
 bif (decide (a7=(2:Int))) then
 bif (decide (((0:Int)≤x19)∧(x19<(((List.length a4):Nat):Int)))) then
 bindO a4[(Int.toNat x19)]? fun x23 =>
 bif (decide (x23.2.2.2.2.1≥(0:Int))) then
 outO (some ((a1,(a2,(a3,(a4,(a5,(maxA a6 a8)))))),Bool.false))
 else
 some (Sum.inl ())
 else none
 else
 some (Sum.inl ())
 else none) fun _ =>
 bif (decide (((0:Int)≤x19)∧(x19<(((List.length a4):Nat):Int)))) then
 bindO a4[(Int.toNat x19)]? fun x24 =>
 bif (decide (((0:Int)≤x19)∧(x19≤(((List.length a4):Nat):Int)))) then
 bindO (some (List.take (Int.toNat x19) a4)) fun x25 =>
 bif (decide (((List.length x25)*104)≤140737488355328)) then
 bindO (some (Go.IntKind.wrap .i64 (x19+(1:Int)))) fun x27 =>
 bif (decide (((0:Int)≤x27)∧(x27≤(((List.length a4):Nat):Int)))) then
 bindO (some (List.drop (Int.toNat x27) a4)) fun x28 =>
 bif (decide ((List.length x25)≤(List.length x25))) then
 bif (decide (((List.length ((List.take (List.length x25) x25)++x28))*104)≤140737488355328)) then
 bindO (some ((List.take (List.length x25) x25)++x28)) fun x29 =>
 joinO (bif (decide (a7=(2:Int))) then
 some (Sum.inl (x24.1,(x24.2.1,(x24.2.2.1,(x24.2.2.2.1,(a8,(a8,(x24.2.2.2.2.2.2.1,(x24.2.2.2.2.2.2.2.1,(x24.2.2.2.2.2.2.2.2.1,x24.2.2.2.2.2.2.2.2.2))))))))))
 else
 some (Sum.inl (x24.1,(x24.2.1,(x24.2.2.1,(x24.2.2.2.1,(x24.2.2.2.2.1,(a8,(x24.2.2.2.2.2.2.1,(x24.2.2.2.2.2.2.2.1,(x24.2.2.2.2.2.2.2.2.1,x24.2.2.2.2.2.2.2.2.2))))))))))) fun (v30,(v31,(v32,(v33,(v34,(v35,(v36,(v37,(v38,v39))))))))) =>
 bif (decide (a7<(4:Int))) then
 bif (decide ((List.length x29)≤(List.length x29))) then
 bindO (dialtoneref38_with ((List.take (List.length x29) x29),(v30,(v31,(v32,(v33,(v34,(v35,(v36,(v37,(v38,v39))))))))))) fun x40 =>
 some ((a1,(a2,(a3,(x40,(a5,(maxA a6 a8)))))),Bool.true)
 else none
 else
 bif (decide (a9=(0:Int))) then
 bif (decide ((List.length x29)≤(List.length x29))) then
 some ((a1,(a2,(a3,((List.take (List.length x29) x29),(a5,(maxA a6 a8)))))),(decide (v34=(-1:Int))))
 else none
 else
 joinO (bif (decide (v34=(-1:Int))) then
 outO (some ((a1,(a2,(a3,(a4,(a5,(maxA a6 a8)))))),Bool.false))
 else
 bif (decide (a9≠(Go.IntKind.wrap .i64 (a5+(1:Int))))) then
 outO (some ((a1,(a2,(a3,(a4,(a5,(maxA a6 a8)))))),Bool.false))
 else
 bif (decide (a9 > (1048576:Int))) then
 outO (some ((a1,(a2,(a3,(a4,(a5,(maxA a6 a8)))))),Bool.false))
 else
 bindO (dialtoneref37_Seconds (v34,v35)) fun x42 =>
 bif (decide (a10≠x42)) then
 outO (some ((a1,(a2,(a3,(a4,(a5,(maxA a6 a8)))))),Bool.false))
 else
 some (Sum.inl ())) fun _ =>
 bif (decide ((List.length x29)≤(List.length x29))) then
 bif (decide (((List.length ((List.take (List.length x29) x29)++((v30,(v31,(v32,(v33,(v34,(v35,(a9,(a10,(a11,v39)))))))))::([]:List (LU×(LU×(LU×(Int×(Int×(Int×(Int×(Int×(Int×Bool)))))))))))))*104)≤140737488355328)) then
 bindO (some ((List.take (List.length x29) x29)++((v30,(v31,(v32,(v33,(v34,(v35,(a9,(a10,(a11,v39)))))))))::([]:List (LU×(LU×(LU×(Int×(Int×(Int×(Int×(Int×(Int×Bool))))))))))))) fun x43 =>
 bif (decide ((List.length x43)≤(List.length x43))) then
 some ((a1,(a2,(a3,((List.take (List.length x43) x43),(a9,(maxA a6 a8)))))),Bool.true)
 else none
 else none
 else none
 else none
 else none
 else none
 else none
 else none
 else none
noncomputable def cons82:List (Nat×CE):=[(85,ce85),(51,ce51),(50,ce50),(67,ce67),(111,ce111)]
theorem cons82_ok:ConL Try.prog cons82:=⟨con85,con51,con50,con67,con111,trivial⟩
noncomputable def ce82:CE:=⟨[(.tmp 0 true [dY,dI,dI,(.dat (.list (.pair .str (.pair .str (.pair .str (.pair uI6 (.pair uI6 (.pair uI6 (.pair uI6 (.pair uI6 (.pair uI6 .bool))))))))))),dI,dI]),(.tmp 1 true [dE8,dI,dI,dI,dI,dS,dS,dS])],[(.tmp 0 true [dY,dI,dI,(.dat (.list (.pair .str (.pair .str (.pair .str (.pair uI6 (.pair uI6 (.pair uI6 (.pair uI6 (.pair uI6 (.pair uI6 .bool))))))))))),dI,dI]),(.tmp 1 false [dO])],dialtoneref38_effect⟩
theorem con82:ConOk Try.prog 82 ce82 :=
 tree_ok (plan:=planOf plan82) (eg:=egAll) KK tabL_ok (conOf_ok cons82_ok) Try.func82 (by kernel_rfl) (by kernel_rfl) 10000 (fun a r h=>Eq.trans (show _=dialtoneref38_effect a from by kernel_rfl) h)
def plan52:List (Nat×PL):=[]
noncomputable def dialtoneref38_full:(LN×(Int×(Int×((List (LU×(LU×(LU×(Int×(Int×(Int×(Int×(Int×(Int×Bool))))))))))×(Int×Int)))))→Option Bool:=fun (a1,(a2,(a3,(a4,(a5,a6))))) =>
 some (decide (a3≥(1048576:Int)))
noncomputable def cons52:List (Nat×CE):=[]
theorem cons52_ok:ConL Try.prog cons52:=trivial
noncomputable def ce52:CE:=⟨[(.tmp 0 true [dY,dI,dI,(.dat (.list (.pair .str (.pair .str (.pair .str (.pair uI6 (.pair uI6 (.pair uI6 (.pair uI6 (.pair uI6 (.pair uI6 .bool))))))))))),dI,dI])],[(.tmp 0 false [dO])],dialtoneref38_full⟩
theorem con52:ConOk Try.prog 52 ce52 :=
 tree_ok (plan:=planOf plan52) (eg:=egNo) KK tabL_ok (conOf_ok cons52_ok) Try.func52 (by kernel_rfl) (by kernel_rfl) 10000 (fun a r h=>Eq.trans (show _=dialtoneref38_full a from by kernel_rfl) h)
def plan53:List (Nat×PL):=[]
noncomputable def dialtoneref38_done:((LN×(Int×(Int×((List (LU×(LU×(LU×(Int×(Int×(Int×(Int×(Int×(Int×Bool))))))))))×(Int×Int)))))×(Int×(Int×(Int×(Int×(Int×(LU×(LU×LU))))))))→Option (LN×(Int×(Int×((List (LU×(LU×(LU×(Int×(Int×(Int×(Int×(Int×(Int×Bool))))))))))×(Int×Int))))):=fun ((a1,(a2,(a3,(a4,(a5,a6))))),(a7,(a8,(a9,(a10,(a11,(a12,(a13,a14)))))))) =>
 bindO (dialtoneref38_effect ((a1,(a2,(a3,(a4,(a5,a6))))),(a7,(a8,(a9,(a10,(a11,(a12,(a13,a14))))))))) fun ((x16,(x17,(x18,(x19,(x20,x21))))),x22) =>
 bindO (actRecord (a7,(a8,(a9,(a10,(a11,(a12,(a13,a14)))))))) fun (x24,x25) =>
 bindO (dialtoneref20_Append ((a1,(a2,a3)),(x24,x25))) fun ((x27,(x28,x29)),x30) =>
 some (x27,(x28,(x29,(x19,(x20,x21)))))
noncomputable def cons53:List (Nat×CE):=[(83,ce83),(84,ce84_actRecord),(82,ce82)]
theorem cons53_ok:ConL Try.prog cons53:=⟨con83,con84_actRecord,con82,trivial⟩
noncomputable def ce53:CE:=⟨[(.tmp 0 true [dY,dI,dI,(.dat (.list (.pair .str (.pair .str (.pair .str (.pair uI6 (.pair uI6 (.pair uI6 (.pair uI6 (.pair uI6 (.pair uI6 .bool))))))))))),dI,dI]),(.tmp 1 true [dE8,dI,dI,dI,dI,dS,dS,dS])],[(.tmp 0 true [dY,dI,dI,(.dat (.list (.pair .str (.pair .str (.pair .str (.pair uI6 (.pair uI6 (.pair uI6 (.pair uI6 (.pair uI6 (.pair uI6 .bool))))))))))),dI,dI])],dialtoneref38_done⟩
theorem con53:ConOk Try.prog 53 ce53 :=
 tree_ok (plan:=planOf plan53) (eg:=egNo) KK tabL_ok (conOf_ok cons53_ok) Try.func53 (by kernel_rfl) (by kernel_rfl) 10000 (fun a r h=>Eq.trans (show _=dialtoneref38_done a from by kernel_rfl) h)
def plan49:List (Nat×PL):=[]
noncomputable def dialtoneref38_timed:((LN×(Int×(Int×((List (LU×(LU×(LU×(Int×(Int×(Int×(Int×(Int×(Int×Bool))))))))))×(Int×Int)))))×Int)→Option Bool:=fun ((a1,(a2,(a3,(a4,(a5,a6))))),a7) =>
 bindO (dialtoneref38_Valid (a1,(a2,(a3,(a4,(a5,a6)))))) fun x8 =>
 bif x8 then
 bif (decide (a7≥a6)) then
 some (decide (a7≤(1099511627776:Int)))
 else
 some Bool.false
 else
 some Bool.false
noncomputable def cons49:List (Nat×CE):=[(13,ce13)]
theorem cons49_ok:ConL Try.prog cons49:=⟨con13,trivial⟩
noncomputable def ce49:CE:=⟨[(.tmp 0 true [dY,dI,dI,(.dat (.list (.pair .str (.pair .str (.pair .str (.pair uI6 (.pair uI6 (.pair uI6 (.pair uI6 (.pair uI6 (.pair uI6 .bool))))))))))),dI,dI]),(.tmp 1 false [dI])],[(.tmp 0 false [dO])],dialtoneref38_timed⟩
theorem con49:ConOk Try.prog 49 ce49 :=
 tree_ok (plan:=planOf plan49) (eg:=egNo) KK tabL_ok (conOf_ok cons49_ok) Try.func49 (by kernel_rfl) (by kernel_rfl) 10000 (fun a r h=>Eq.trans (show _=dialtoneref38_timed a from by kernel_rfl) h)
def plan64:List (Nat×PL):=[(68853957121,(.carry [.mix 15 [dE8,dI,dI,dI,dI,dS,dS,dS]]))]
noncomputable def dialtoneref38_ended:((LN×(Int×(Int×((List (LU×(LU×(LU×(Int×(Int×(Int×(Int×(Int×(Int×Bool))))))))))×(Int×Int)))))×(((List (LU×(Int×(Int×(Int×(List ((Int×(Int×Int))×(Int×Int))))))))×Int)×(Int×Int)))→Option ((LN×(Int×(Int×((List (LU×(LU×(LU×(Int×(Int×(Int×(Int×(Int×(Int×Bool))))))))))×(Int×Int)))))×Int):=fun ((a1,(a2,(a3,(a4,(a5,a6))))),((a7,a8),(a9,a10))) =>
 bif (decide (((0:Int)≤a9)∧(a9<(((List.length a4):Nat):Int)))) then
 bindO a4[(Int.toNat a9)]? fun x11 =>
 joinO (bif (decide (x11.2.2.2.2.1≥(0:Int))) then
 bindO (some (Go.IntKind.wrap .i64 (a5+(1:Int)))) fun x12 =>
 bindO (dialtoneref37_Seconds (x11.2.2.2.2.1,a10)) fun x13 =>
 bindO (dialtoneref37_Cost ((a7,a8),(x11.2.2.1,(x11.2.2.2.2.1,a10)))) fun (x15,x16) =>
 bif (decide (x16=(0:Int))) then
 some (Sum.inl ((4:Int),(a10,(x12,(x13,(x15,(x11.1,(([]:List UInt8),([]:List UInt8)))))))))
 else
 some (Sum.inl ((4:Int),(a10,(x12,(x13,((0:Int),(x11.1,(([]:List UInt8),([]:List UInt8)))))))))
 else
 some (Sum.inl ((4:Int),(a10,((0:Int),((0:Int),((0:Int),(x11.1,(([]:List UInt8),([]:List UInt8)))))))))) fun (v17,(v18,(v19,(v20,(v21,(v22,(v23,v24))))))) =>
 bindO (dialtoneref38_full (a1,(a2,(a3,(a4,(a5,a6)))))) fun x25 =>
 bif x25 then
 some ((([]:List Int),((0:Int),((0:Int),(([]:List (LU×(LU×(LU×(Int×(Int×(Int×(Int×(Int×(Int×Bool)))))))))),((0:Int),(0:Int)))))),(10:Int))
 else
 bif (decide (v19 > (1048576:Int))) then
 some ((([]:List Int),((0:Int),((0:Int),(([]:List (LU×(LU×(LU×(Int×(Int×(Int×(Int×(Int×(Int×Bool)))))))))),((0:Int),(0:Int)))))),(10:Int))
 else
 bindO (dialtoneref38_done ((a1,(a2,(a3,(a4,(a5,a6))))),(v17,(v18,(v19,(v20,(v21,(v22,(v23,v24))))))))) fun (x27,(x28,(x29,(x30,(x31,x32))))) =>
 some ((x27,(x28,(x29,(x30,(x31,x32))))),(0:Int))
 else none
noncomputable def ce90:CE:=⟨[(.tmp 0 true [(.dat (.list (.pair .str (.pair uI6 (.pair uI6 (.pair uI6 (.list (.pair (.pair uI8 (.pair uI6 uI6)) (.pair uI6 uI6))))))))),dI]),(.tmp 1 false [dS]),(.tmp 2 false [dI]),(.tmp 3 false [dI])],[(.tmp 0 false [dI]),(.tmp 1 false [dE8])],dialtoneref37_Cost⟩
noncomputable def cons64:List (Nat×CE):=[(85,ce85),(90,ce90),(52,ce52),(53,ce53)]
theorem cons64_ok:ConL Try.prog cons64:=⟨con85,con90,con52,con53,trivial⟩
noncomputable def ce64:CE:=⟨[(.tmp 0 true [dY,dI,dI,(.dat (.list (.pair .str (.pair .str (.pair .str (.pair uI6 (.pair uI6 (.pair uI6 (.pair uI6 (.pair uI6 (.pair uI6 .bool))))))))))),dI,dI]),(.tmp 1 true [(.dat (.list (.pair .str (.pair uI6 (.pair uI6 (.pair uI6 (.list (.pair (.pair uI8 (.pair uI6 uI6)) (.pair uI6 uI6))))))))),dI]),(.tmp 2 false [dI]),(.tmp 3 false [dI])],[(.tmp 0 true [dY,dI,dI,(.dat (.list (.pair .str (.pair .str (.pair .str (.pair uI6 (.pair uI6 (.pair uI6 (.pair uI6 (.pair uI6 (.pair uI6 .bool))))))))))),dI,dI]),(.tmp 1 false [dE8])],dialtoneref38_ended⟩
theorem con64:ConOk Try.prog 64 ce64 :=
 tree_ok (plan:=planOf plan64) (eg:=egNo) KK tabL_ok (conOf_ok cons64_ok) Try.func64 (by kernel_rfl) (by kernel_rfl) 10000 (fun a r h=>Eq.trans (show _=dialtoneref38_ended a from by kernel_rfl) h)
def plan21:List (Nat×PL):=[]
noncomputable def dialtoneref38_End:((LN×(Int×(Int×((List (LU×(LU×(LU×(Int×(Int×(Int×(Int×(Int×(Int×Bool))))))))))×(Int×Int)))))×(((List (LU×(Int×(Int×(Int×(List ((Int×(Int×Int))×(Int×Int))))))))×Int)×(LU×Int)))→Option ((LN×(Int×(Int×((List (LU×(LU×(LU×(Int×(Int×(Int×(Int×(Int×(Int×Bool))))))))))×(Int×Int)))))×Int):=fun ((a1,(a2,(a3,(a4,(a5,a6))))),((a7,a8),(a9,a10))) =>
 bindO (dialtoneref38_timed ((a1,(a2,(a3,(a4,(a5,a6))))),a10)) fun x11 =>
 bif (!x11) then
 some ((([]:List Int),((0:Int),((0:Int),(([]:List (LU×(LU×(LU×(Int×(Int×(Int×(Int×(Int×(Int×Bool)))))))))),((0:Int),(0:Int)))))),(2:Int))
 else
 bindO (dialtoneref37_Valid (a7,a8)) fun x12 =>
 bif (!x12) then
 some ((([]:List Int),((0:Int),((0:Int),(([]:List (LU×(LU×(LU×(Int×(Int×(Int×(Int×(Int×(Int×Bool)))))))))),((0:Int),(0:Int)))))),(2:Int))
 else
 bindO (dialtoneref38_find ((a1,(a2,(a3,(a4,(a5,a6))))),a9)) fun x13 =>
 bif (decide (x13<(0:Int))) then
 some ((([]:List Int),((0:Int),((0:Int),(([]:List (LU×(LU×(LU×(Int×(Int×(Int×(Int×(Int×(Int×Bool)))))))))),((0:Int),(0:Int)))))),(8:Int))
 else
 bindO (dialtoneref38_ended ((a1,(a2,(a3,(a4,(a5,a6))))),((a7,a8),(x13,a10)))) fun ((x15,(x16,(x17,(x18,(x19,x20))))),x21) =>
 some ((x15,(x16,(x17,(x18,(x19,x20))))),x21)
noncomputable def ce63:CE:=⟨[(.tmp 0 true [(.dat (.list (.pair .str (.pair uI6 (.pair uI6 (.pair uI6 (.list (.pair (.pair uI8 (.pair uI6 uI6)) (.pair uI6 uI6))))))))),dI])],[(.tmp 0 false [dO])],dialtoneref37_Valid⟩
noncomputable def cons21:List (Nat×CE):=[(63,ce63),(50,ce50),(49,ce49),(64,ce64)]
theorem cons21_ok:ConL Try.prog cons21:=⟨con63,con50,con49,con64,trivial⟩
noncomputable def ce21:CE:=⟨[(.tmp 0 true [dY,dI,dI,(.dat (.list (.pair .str (.pair .str (.pair .str (.pair uI6 (.pair uI6 (.pair uI6 (.pair uI6 (.pair uI6 (.pair uI6 .bool))))))))))),dI,dI]),(.tmp 1 true [(.dat (.list (.pair .str (.pair uI6 (.pair uI6 (.pair uI6 (.list (.pair (.pair uI8 (.pair uI6 uI6)) (.pair uI6 uI6))))))))),dI]),(.tmp 2 false [dS]),(.tmp 3 false [dI])],[(.tmp 0 true [dY,dI,dI,(.dat (.list (.pair .str (.pair .str (.pair .str (.pair uI6 (.pair uI6 (.pair uI6 (.pair uI6 (.pair uI6 (.pair uI6 .bool))))))))))),dI,dI]),(.tmp 1 false [dE8])],dialtoneref38_End⟩
theorem con21:ConOk Try.prog 21 ce21 :=
 tree_ok (plan:=planOf plan21) (eg:=egNo) KK tabL_ok (conOf_ok cons21_ok) Try.func21 (by kernel_rfl) (by kernel_rfl) 10000 (fun a r h=>Eq.trans (show _=dialtoneref38_End a from by kernel_rfl) h)
def plan25:List (Nat×PL):=[(134480385,(.carry [])),(18049651601311750,(.carry [.tmp 4 false [dI]]))]
noncomputable def dialtoneref38_Next:(LN×(Int×(Int×((List (LU×(LU×(LU×(Int×(Int×(Int×(Int×(Int×(Int×Bool))))))))))×(Int×Int)))))→Option ((LU×(LU×(LU×(Int×(Int×(Int×(Int×(Int×(Int×Bool)))))))))×Bool):=fun (a1,(a2,(a3,(a4,(a5,a6))))) =>
 bindO (dialtoneref38_Valid (a1,(a2,(a3,(a4,(a5,a6)))))) fun x7 =>
 bif (!x7) then
 some ((([]:List UInt8),(([]:List UInt8),(([]:List UInt8),((0:Int),((0:Int),((0:Int),((0:Int),((0:Int),((0:Int),Bool.false))))))))),Bool.false)
 else
 bif (decide (a2≠(((List.length a1):Nat):Int))) then
 some ((([]:List UInt8),(([]:List UInt8),(([]:List UInt8),((0:Int),((0:Int),((0:Int),((0:Int),((0:Int),((0:Int),Bool.false))))))))),Bool.false)
 else
 joinO (bindO (dialtoneref38_Open (a1,(a2,(a3,(a4,(a5,a6)))))) fun x8 =>
 loopO (fun v9 =>
 bif (decide (v9<(((List.length a4):Nat):Int))) then
 bif (decide (((0:Int)≤v9)∧(v9<(((List.length a4):Nat):Int)))) then
 bindO a4[(Int.toNat v9)]? fun x10 =>
 bif (!x10.2.2.2.2.2.2.2.2.2) then
 bif (decide (((0:Int)≤v9)∧(v9<(((List.length a4):Nat):Int)))) then
 bindO a4[(Int.toNat v9)]? fun x11 =>
 outO (outO (some ((x11.1,(x11.2.1,(x11.2.2.1,(x11.2.2.2.1,(x11.2.2.2.2.1,(x11.2.2.2.2.2.1,(x11.2.2.2.2.2.2.1,(x11.2.2.2.2.2.2.2.1,(x11.2.2.2.2.2.2.2.2.1,x11.2.2.2.2.2.2.2.2.2))))))))),Bool.true)))
 else none
 else
 some (Sum.inl (Go.IntKind.wrap .i64 (v9+(1:Int))))
 else none
 else
 outO (some (Sum.inl ()))) x8) fun _ =>
 some ((([]:List UInt8),(([]:List UInt8),(([]:List UInt8),((0:Int),((0:Int),((0:Int),((0:Int),((0:Int),((0:Int),Bool.false))))))))),Bool.false)
noncomputable def cons25:List (Nat×CE):=[(51,ce51),(13,ce13)]
theorem cons25_ok:ConL Try.prog cons25:=⟨con51,con13,trivial⟩
noncomputable def ce25:CE:=⟨[(.tmp 0 true [dY,dI,dI,(.dat (.list (.pair .str (.pair .str (.pair .str (.pair uI6 (.pair uI6 (.pair uI6 (.pair uI6 (.pair uI6 (.pair uI6 .bool))))))))))),dI,dI])],[(.tmp 0 true [dS,dS,dS,dI,dI,dI,dI,dI,dI,dO]),(.tmp 1 false [dO])],dialtoneref38_Next⟩
theorem con25:ConOk Try.prog 25 ce25 :=
 tree_ok (plan:=planOf plan25) (eg:=egNo) KK tabL_ok (conOf_ok cons25_ok) Try.func25 (by kernel_rfl) (by kernel_rfl) 10000 (fun a r h=>Eq.trans (show _=dialtoneref38_Next a from by kernel_rfl) h)
def plan23:List (Nat×PL):=[]
noncomputable def dialtoneref38_Given:((LN×(Int×(Int×((List (LU×(LU×(LU×(Int×(Int×(Int×(Int×(Int×(Int×Bool))))))))))×(Int×Int)))))×Int)→Option ((LN×(Int×(Int×((List (LU×(LU×(LU×(Int×(Int×(Int×(Int×(Int×(Int×Bool))))))))))×(Int×Int)))))×Int):=fun ((a1,(a2,(a3,(a4,(a5,a6))))),a7) =>
 bindO (dialtoneref38_Valid (a1,(a2,(a3,(a4,(a5,a6)))))) fun x8 =>
 bif (!x8) then
 some ((([]:List Int),((0:Int),((0:Int),(([]:List (LU×(LU×(LU×(Int×(Int×(Int×(Int×(Int×(Int×Bool)))))))))),((0:Int),(0:Int)))))),(2:Int))
 else
 bindO (dialtoneref38_record ((a1,(a2,(a3,(a4,(a5,a6))))),a7)) fun x9 =>
 bif (decide (x9<(0:Int))) then
 some ((([]:List Int),((0:Int),((0:Int),(([]:List (LU×(LU×(LU×(Int×(Int×(Int×(Int×(Int×(Int×Bool)))))))))),((0:Int),(0:Int)))))),(8:Int))
 else
 bif (decide (((0:Int)≤x9)∧(x9<(((List.length a4):Nat):Int)))) then
 bindO a4[(Int.toNat x9)]? fun x10 =>
 bif x10.2.2.2.2.2.2.2.2.2 then
 some ((([]:List Int),((0:Int),((0:Int),(([]:List (LU×(LU×(LU×(Int×(Int×(Int×(Int×(Int×(Int×Bool)))))))))),((0:Int),(0:Int)))))),(9:Int))
 else
 bindO (dialtoneref38_full (a1,(a2,(a3,(a4,(a5,a6)))))) fun x11 =>
 bif x11 then
 some ((([]:List Int),((0:Int),((0:Int),(([]:List (LU×(LU×(LU×(Int×(Int×(Int×(Int×(Int×(Int×Bool)))))))))),((0:Int),(0:Int)))))),(10:Int))
 else
 bindO (dialtoneref38_done ((a1,(a2,(a3,(a4,(a5,a6))))),((5:Int),((0:Int),(a7,((0:Int),((0:Int),(([]:List UInt8),(([]:List UInt8),([]:List UInt8)))))))))) fun (x13,(x14,(x15,(x16,(x17,x18))))) =>
 some ((x13,(x14,(x15,(x16,(x17,x18))))),(0:Int))
 else none
noncomputable def cons23:List (Nat×CE):=[(13,ce13),(67,ce67),(52,ce52),(53,ce53)]
theorem cons23_ok:ConL Try.prog cons23:=⟨con13,con67,con52,con53,trivial⟩
noncomputable def ce23:CE:=⟨[(.tmp 0 true [dY,dI,dI,(.dat (.list (.pair .str (.pair .str (.pair .str (.pair uI6 (.pair uI6 (.pair uI6 (.pair uI6 (.pair uI6 (.pair uI6 .bool))))))))))),dI,dI]),(.tmp 1 false [dI])],[(.tmp 0 true [dY,dI,dI,(.dat (.list (.pair .str (.pair .str (.pair .str (.pair uI6 (.pair uI6 (.pair uI6 (.pair uI6 (.pair uI6 (.pair uI6 .bool))))))))))),dI,dI]),(.tmp 1 false [dE8])],dialtoneref38_Given⟩
theorem con23:ConOk Try.prog 23 ce23 :=
 tree_ok (plan:=planOf plan23) (eg:=egNo) KK tabL_ok (conOf_ok cons23_ok) Try.func23 (by kernel_rfl) (by kernel_rfl) 10000 (fun a r h=>Eq.trans (show _=dialtoneref38_Given a from by kernel_rfl) h)
def plan27:List (Nat×PL):=[]
noncomputable def dialtoneref38_Sync:(LN×(Int×(Int×((List (LU×(LU×(LU×(Int×(Int×(Int×(Int×(Int×(Int×Bool))))))))))×(Int×Int)))))→Option (LN×(Int×(Int×((List (LU×(LU×(LU×(Int×(Int×(Int×(Int×(Int×(Int×Bool))))))))))×(Int×Int))))):=fun (a1,(a2,(a3,(a4,(a5,a6))))) =>
 bindO (dialtoneref38_Valid (a1,(a2,(a3,(a4,(a5,a6)))))) fun x7 =>
 bif (!x7) then
 some (([]:List Int),((0:Int),((0:Int),(([]:List (LU×(LU×(LU×(Int×(Int×(Int×(Int×(Int×(Int×Bool)))))))))),((0:Int),(0:Int))))))
 else
 bindO (dialtoneref20_Sync (a1,(a2,a3))) fun (x9,(x10,x11)) =>
 some (x9,(x10,(x11,(a4,(a5,a6)))))
noncomputable def cons27:List (Nat×CE):=[(69,ce69),(13,ce13)]
theorem cons27_ok:ConL Try.prog cons27:=⟨con69,con13,trivial⟩
noncomputable def ce27:CE:=⟨[(.tmp 0 true [dY,dI,dI,(.dat (.list (.pair .str (.pair .str (.pair .str (.pair uI6 (.pair uI6 (.pair uI6 (.pair uI6 (.pair uI6 (.pair uI6 .bool))))))))))),dI,dI])],[(.tmp 0 true [dY,dI,dI,(.dat (.list (.pair .str (.pair .str (.pair .str (.pair uI6 (.pair uI6 (.pair uI6 (.pair uI6 (.pair uI6 (.pair uI6 .bool))))))))))),dI,dI])],dialtoneref38_Sync⟩
theorem con27:ConOk Try.prog 27 ce27 :=
 tree_ok (plan:=planOf plan27) (eg:=egNo) KK tabL_ok (conOf_ok cons27_ok) Try.func27 (by kernel_rfl) (by kernel_rfl) 10000 (fun a r h=>Eq.trans (show _=dialtoneref38_Sync a from by kernel_rfl) h)
def plan59:List (Nat×PL):=[(134480385,(.carry [])),(18049651601311750,(.carry [.tmp 5 false [dI]]))]
noncomputable def dialtoneref38_SameBills:((List (LU×(LU×(LU×(Int×(Int×(Int×(Int×(Int×(Int×Bool))))))))))×(List (LU×(LU×(LU×(Int×(Int×(Int×(Int×(Int×(Int×Bool)))))))))))→Option Bool:=fun (a1,a2) =>
 bif (decide ((((List.length a1):Nat):Int)≠(((List.length a2):Nat):Int))) then
 some Bool.false
 else
 joinO (loopO (fun v3 =>
 bif (decide (v3<(((List.length a1):Nat):Int))) then
 bif (decide (((0:Int)≤v3)∧(v3<(((List.length a1):Nat):Int)))) then
 bindO a1[(Int.toNat v3)]? fun x4 =>
 bif (decide (((0:Int)≤v3)∧(v3<(((List.length a2):Nat):Int)))) then
 bindO a2[(Int.toNat v3)]? fun x5 =>
 bif (!((decide (x4.1=x5.1))&&((decide (x4.2.1=x5.2.1))&&((decide (x4.2.2.1=x5.2.2.1))&&((decide (x4.2.2.2.1=x5.2.2.2.1))&&((decide (x4.2.2.2.2.1=x5.2.2.2.2.1))&&((decide (x4.2.2.2.2.2.1=x5.2.2.2.2.2.1))&&((decide (x4.2.2.2.2.2.2.1=x5.2.2.2.2.2.2.1))&&((decide (x4.2.2.2.2.2.2.2.1=x5.2.2.2.2.2.2.2.1))&&((decide (x4.2.2.2.2.2.2.2.2.1=x5.2.2.2.2.2.2.2.2.1))&&(x4.2.2.2.2.2.2.2.2.2==x5.2.2.2.2.2.2.2.2.2))))))))))) then
 outO (outO (some Bool.false))
 else
 some (Sum.inl (Go.IntKind.wrap .i64 (v3+(1:Int))))
 else none
 else none
 else
 outO (some (Sum.inl ()))) (0:Int)) fun _ =>
 some Bool.true
noncomputable def cons59:List (Nat×CE):=[]
theorem cons59_ok:ConL Try.prog cons59:=trivial
noncomputable def ce59:CE:=⟨[(.tmp 0 false [(.dat (.list (.pair .str (.pair .str (.pair .str (.pair uI6 (.pair uI6 (.pair uI6 (.pair uI6 (.pair uI6 (.pair uI6 .bool)))))))))))]),(.tmp 1 false [(.dat (.list (.pair .str (.pair .str (.pair .str (.pair uI6 (.pair uI6 (.pair uI6 (.pair uI6 (.pair uI6 (.pair uI6 .bool)))))))))))])],[(.tmp 0 false [dO])],dialtoneref38_SameBills⟩
theorem con59:ConOk Try.prog 59 ce59 :=
 tree_ok (plan:=planOf plan59) (eg:=egNo) KK tabL_ok (conOf_ok cons59_ok) Try.func59 (by kernel_rfl) (by kernel_rfl) 10000 (fun a r h=>Eq.trans (show _=dialtoneref38_SameBills a from by kernel_rfl) h)
def plan14:List (Nat×PL):=[]
noncomputable def dialtoneref38_Same:((LN×(Int×(Int×((List (LU×(LU×(LU×(Int×(Int×(Int×(Int×(Int×(Int×Bool))))))))))×(Int×Int)))))×(LN×(Int×(Int×((List (LU×(LU×(LU×(Int×(Int×(Int×(Int×(Int×(Int×Bool))))))))))×(Int×Int))))))→Option Bool:=fun ((a1,(a2,(a3,(a4,(a5,a6))))),(a7,(a8,(a9,(a10,(a11,a12)))))) =>
 bindO (dialtoneref20_SameLog ((a1,(a2,a3)),(a7,(a8,a9)))) fun x13 =>
 bif x13 then
 bindO (dialtoneref38_SameBills (a4,a10)) fun x14 =>
 bif x14 then
 bif (decide (a5=a11)) then
 some (decide (a6=a12))
 else
 some Bool.false
 else
 some Bool.false
 else
 some Bool.false
noncomputable def cej58:CE:=⟨[(.tmp 0 true [dY,dI,dI]),(.tmp 1 true [dY,dI,dI])],[(.tmp 0 false [dO])],dialtoneref20_SameLog⟩
noncomputable def cons14:List (Nat×CE):=[(58,cej58),(59,ce59)]
theorem cons14_ok:ConL Try.prog cons14:=⟨conj58,con59,trivial⟩
noncomputable def ce14:CE:=⟨[(.tmp 0 true [dY,dI,dI,(.dat (.list (.pair .str (.pair .str (.pair .str (.pair uI6 (.pair uI6 (.pair uI6 (.pair uI6 (.pair uI6 (.pair uI6 .bool))))))))))),dI,dI]),(.tmp 1 true [dY,dI,dI,(.dat (.list (.pair .str (.pair .str (.pair .str (.pair uI6 (.pair uI6 (.pair uI6 (.pair uI6 (.pair uI6 (.pair uI6 .bool))))))))))),dI,dI])],[(.tmp 0 false [dO])],dialtoneref38_Same⟩
theorem con14:ConOk Try.prog 14 ce14 :=
 tree_ok (plan:=planOf plan14) (eg:=egNo) KK tabL_ok (conOf_ok cons14_ok) Try.func14 (by kernel_rfl) (by kernel_rfl) 10000 (fun a r h=>Eq.trans (show _=dialtoneref38_Same a from by kernel_rfl) h)
def plan8:List (Nat×PL):=[]
noncomputable def dialtonelaw38_light:(LN×(Int×(Int×((List (LU×(LU×(LU×(Int×(Int×(Int×(Int×(Int×(Int×Bool))))))))))×(Int×Int)))))→Option Bool:=fun (a1,(a2,(a3,(a4,(a5,a6))))) =>
 bif (decide ((((List.length a4):Nat):Int)≤(600:Int))) then
 some (decide ((((List.length a1):Nat):Int)≤(100000:Int)))
 else
 some Bool.false
noncomputable def cons8:List (Nat×CE):=[]
theorem cons8_ok:ConL Try.prog cons8:=trivial
noncomputable def ce8:CE:=⟨[(.tmp 0 true [dY,dI,dI,(.dat (.list (.pair .str (.pair .str (.pair .str (.pair uI6 (.pair uI6 (.pair uI6 (.pair uI6 (.pair uI6 (.pair uI6 .bool))))))))))),dI,dI])],[(.tmp 0 false [dO])],dialtonelaw38_light⟩
theorem con8:ConOk Try.prog 8 ce8 :=
 tree_ok (plan:=planOf plan8) (eg:=egNo) KK tabL_ok (conOf_ok cons8_ok) Try.func8 (by kernel_rfl) (by kernel_rfl) 10000 (fun a r h=>Eq.trans (show _=dialtonelaw38_light a from by kernel_rfl) h)
def plan19:List (Nat×PL):=[]
noncomputable def dialtonelaw38_thin:((List (LU×(Int×(Int×(Int×(List ((Int×(Int×Int))×(Int×Int))))))))×Int)→Option Bool:=fun (a1,a2) =>
 some (decide ((((List.length a1):Nat):Int)≤(20:Int)))
noncomputable def cons19:List (Nat×CE):=[]
theorem cons19_ok:ConL Try.prog cons19:=trivial
noncomputable def ce19:CE:=⟨[(.tmp 0 true [(.dat (.list (.pair .str (.pair uI6 (.pair uI6 (.pair uI6 (.list (.pair (.pair uI8 (.pair uI6 uI6)) (.pair uI6 uI6))))))))),dI])],[(.tmp 0 false [dO])],dialtonelaw38_thin⟩
theorem con19:ConOk Try.prog 19 ce19 :=
 tree_ok (plan:=planOf plan19) (eg:=egNo) KK tabL_ok (conOf_ok cons19_ok) Try.func19 (by kernel_rfl) (by kernel_rfl) 10000 (fun a r h=>Eq.trans (show _=dialtonelaw38_thin a from by kernel_rfl) h)
def plan28:List (Nat×PL):=[]
noncomputable def dialtonelaw38_tariff:PUnit→Option ((List (LU×(Int×(Int×(Int×(List ((Int×(Int×Int))×(Int×Int))))))))×Int):=fun _ =>
 some (((([]:List UInt8),((0:Int),((1:Int),((1:Int),((((127:Int),((0:Int),(1440:Int))),((1000:Int),(1000:Int)))::([]:List ((Int×(Int×Int))×(Int×Int))))))))::([]:List (LU×(Int×(Int×(Int×(List ((Int×(Int×Int))×(Int×Int))))))))),(0:Int))
noncomputable def cons28:List (Nat×CE):=[]
theorem cons28_ok:ConL Try.prog cons28:=trivial
noncomputable def ce28:CE:=⟨[],[(.tmp 0 true [(.dat (.list (.pair .str (.pair uI6 (.pair uI6 (.pair uI6 (.list (.pair (.pair uI8 (.pair uI6 uI6)) (.pair uI6 uI6))))))))),dI])],dialtonelaw38_tariff⟩
theorem con28:ConOk Try.prog 28 ce28 :=
 tree_ok (plan:=planOf plan28) (eg:=egNo) KK tabL_ok (conOf_ok cons28_ok) Try.func28 (by kernel_rfl) (by kernel_rfl) 10000 (fun a r h=>Eq.trans (show _=dialtonelaw38_tariff a from by kernel_rfl) h)
end Go.Proofs.Ytkpijdndakljjaa

namespace Go.Proofs.Ytkpijdndakljjaa
open Go.RowKit
theorem get_bz {α β:Type} {l:List α} {v:Int} (d:α) (f:α→Option β) (h:0≤v∧v<(l.length:Int)):bindO l[Int.toNat v]? f=f (l.getD v.toNat d):=by rw [get_D' d (by omega)];rfl
theorem get_at {α:Type} {l:List α} {i:Nat} (d:α) (h:i<l.length):∃x,l.getD i d=x∧∀ {β:Type} (f:α→Option β),bindO l[Int.toNat (i:Int)]? f=f x:=⟨_,rfl,fun f=>get_bz d f (by omega)⟩
def Is (o:Option Bool) (P:Prop):Prop:=(P∧o=some true)∨(¬P∧o=some false)
theorem Is.t {P:Prop} (h:P):Is (some true) P := .inl ⟨h,rfl⟩
theorem Is.f {P:Prop} (h:¬P):Is (some false) P := .inr ⟨h,rfl⟩
theorem Is.d {P Q:Prop} [Decidable Q] (h:Q↔P):Is (some (decide Q)) P:=by
 by_cases k:Q
 ·exact .inl ⟨h.1 k,by rw [decide_eq_true k]⟩
 ·exact .inr ⟨fun p=>k (h.2 p),by rw [decide_eq_false k]⟩
theorem Is.eq {o o':Option Bool} {P:Prop} (h:Is o P) (k:Is o' P):o=o':=by
 rcases h with ⟨h,e⟩ | ⟨h,e⟩<;>rcases k with ⟨k,e'⟩ | ⟨k,e'⟩
 ·rw [e,e']
 ·exact (k h).elim
 ·exact (h k).elim
 ·rw [e,e']
theorem Is.iff {o:Option Bool} {P Q:Prop} (h:Is o P) (k:P↔Q):Is o Q:=by
 rcases h with ⟨h,e⟩ | ⟨h,e⟩
 ·exact .inl ⟨k.1 h,e⟩
 ·exact .inr ⟨fun q=>h (k.2 q),e⟩
theorem Is.some {o:Option Bool} {P:Prop} (h:Is o P):∃b,o=Option.some b:=by
 rcases h with ⟨_,e⟩ | ⟨_,e⟩<;>exact ⟨_,e⟩
theorem loop_all {β:Type} {body:Int→Option (Int ⊕ β)} (n:Nat) (ok:Nat→Prop) (r0 r1:β) (h1:∀i:Nat,i<n→ok i→body (i:Int)=some (.inl ((i+1:Nat):Int))) (h2:∀i:Nat,i<n→¬ok i→body (i:Int)=some (.inr r1)) (h3:body (n:Int)=some (.inr r0)) :
 ((∀i,i<n→ok i)∧loopO body (0:Int)=some r0)∨(¬(∀i,i<n→ok i)∧loopO body (0:Int)=some r1):=by
 have hs:=loopO_search (body:=body) (fun i=>(i:Int)) n (fun i=>¬ok i) (r0:=r0) (r1:=r1) (x:=0) rfl (fun i hi hb=>h1 i hi (Classical.not_not.1 hb)) h2 h3
 rcases hs with ⟨⟨i,hi,hb⟩,e⟩ | ⟨hn,e⟩
 ·exact .inr ⟨fun h=>hb (h i hi),e⟩
 ·exact .inl ⟨fun i hi=>Classical.byContradiction fun h=>hn ⟨i,hi,h⟩,e⟩
theorem loop_allI {υ β:Type} {body:υ→Option (υ ⊕ β)} (st:Nat→υ) (n:Nat) (ok:Nat→Prop) (r0 r1:β) {x:υ} (hx:st 0=x) (h1:∀i:Nat,i<n→(∀j,j<i→ok j)→ok i→body (st i)=some (.inl (st (i+1)))) (h2:∀i:Nat,i<n→(∀j,j<i→ok j)→¬ok i→body (st i)=some (.inr r1)) (h3:(∀j,j<n→ok j)→body (st n)=some (.inr r0)) :
 ((∀i,i<n→ok i)∧loopO body x=some r0)∨(¬(∀i,i<n→ok i)∧loopO body x=some r1):=by
 by_cases h:∃i,i<n∧¬ok i
 ·obtain ⟨i,⟨k1,k2⟩,k3⟩:=least h
  have k4:∀j,j<i→ok j:=fun j hj=>Classical.byContradiction fun hp=>k3 j hj ⟨by omega,hp⟩
  exact .inr ⟨fun g=>k2 (g i k1),loopO_from st i hx (fun j hj=>h1 j (by omega) (fun q hq=>k4 q (by omega)) (k4 j hj)) (h2 i k1 k4 k2)⟩
 ·have k4:∀j,j<n→ok j:=fun j hj=>Classical.byContradiction fun hp=>h ⟨j,hj,hp⟩
  exact .inl ⟨k4,loopO_from st n hx (fun j hj=>h1 j hj (fun q hq=>k4 q (by omega)) (k4 j hj)) (h3 k4)⟩
theorem loop_first {β:Type} {body:Int→Option (Int ⊕ β)} (n:Nat) (p:Nat→Prop) (g:Nat→β) (r0:β) (h1:∀i:Nat,i<n→¬p i→body (i:Int)=some (.inl ((i+1:Nat):Int))) (h2:∀i:Nat,i<n→p i→body (i:Int)=some (.inr (g i))) (h3:body (n:Int)=some (.inr r0)) :
 (∃i,i<n∧p i∧(∀j,j<i→¬p j)∧loopO body (0:Int)=some (g i))∨((∀i,i<n→¬p i)∧loopO body (0:Int)=some r0):=by
 by_cases h:∃i,i<n∧p i
 ·obtain ⟨i,⟨k1,k2⟩,k3⟩:=least h
  exact .inl ⟨i,k1,k2,fun j hj hp=>k3 j hj ⟨by omega,hp⟩,loopO_from (fun i=>(i:Int)) i rfl (fun j hj=>h1 j (by omega) fun hp=>k3 j hj ⟨by omega,hp⟩) (h2 i k1 k2)⟩
 ·exact .inr ⟨fun i hi hp=>h ⟨i,hi,hp⟩,loopO_from (fun i=>(i:Int)) n rfl (fun j hj=>h1 j hj fun hp=>h ⟨j,hj,hp⟩) h3⟩
theorem getD_take {α:Type} (l:List α) (d:α) {i k:Nat} (h:k<i):(l.take i).getD k d=l.getD k d:=by
 rw [List.getD_eq_getElem?_getD,List.getD_eq_getElem?_getD,List.getElem?_take,if_pos h]
theorem take_snoc {α:Type} (l:List α) (d:α) {i:Nat} (h:i<l.length):l.take (i+1)=l.take i++[l.getD i d]:=by
 rw [List.take_add_one,List.getElem?_eq_getElem h,getD_get d h];rfl
theorem SDl:(∀ {α β:Type} (a:α) (f:α→Option β),bindO (some a) f=f a)∧(∀ {α β:Type} (f:α→Option β),bindO none f=none)∧(∀ {α β:Type} (a:α) (f:α→Option β),joinO (some (.inl a)) f=f a)∧(∀ {α β:Type} (b:β) (f:α→Option β),joinO (some (.inr b)) f=some b)∧(∀ {α β:Type} (f:α→Option β),joinO none f=none)∧(∀ {α β:Type} (b:β),(outO (some b):Option (α ⊕ β))=some (.inr b))∧(∀ {α β:Type},(outO none:Option (α ⊕ β))=none)∧(∀ {α:Type} (a b:α),(bif true then a else b)=a)∧(∀ {α:Type} (a b:α),(bif false then a else b)=b)∧(∀ {α:Type} (p q:Bool) (a b:α),(bif (p&&q) then a else b)=bif p then (bif q then a else b) else b)∧(∀ {α:Type} (p q:Bool) (a b:α),(bif (p||q) then a else b)=bif p then a else (bif q then a else b))∧(∀ {α:Type} (p:Bool) (a b:α),(bif (!p) then a else b)=bif p then b else a)∧(∀ {α:Type} (p:Prop) [Decidable p] (a b:α),(bif decide p then a else b)=if p then a else b)∧(∀ {α:Type} (p:Prop) [Decidable p] (a b:α),p→(if p then a else b)=a)∧(∀ {α:Type} (p:Prop) [Decidable p] (a b:α),¬p→(if p then a else b)=b) :=
 ⟨bindO_some,bindO_none,joinO_inl,joinO_inr,joinO_none,outO_some,outO_none,fun _ _=>rfl,fun _ _=>rfl,cond_and,cond_or,cond_not,cond_ite,fun _ _ _ _ h=>if_pos h,fun _ _ _ _ h=>if_neg h⟩
theorem SDr:(∀ {α:Type} (l:List α),List.take l.length l=l)∧(∀n:Nat,(n≤n)=True)∧(!true)=false∧(!false)=true∧(∀ {α:Type} (a b:α),(if True then a else b)=a)∧(∀ {α:Type} (a b:α),(if False then a else b)=b) :=
 ⟨fun l=>List.take_length,fun n=>eq_true (Nat.le_refl n),rfl,rfl,fun _ _=>if_true ..,fun _ _=>if_false ..⟩
theorem LNl:(∀ {α:Type} (l:List α) (i:Nat) (a:α),(l.set i a).length=l.length)∧(∀ {α:Type} (l m:List α),(l++m).length=l.length+m.length)∧(∀ {α:Type} (a:α) (l:List α),(a::l).length=l.length+1)∧(∀ {α:Type},([]:List α).length=0)∧(∀ {α:Type} (l:List α),[]++l=l)∧(∀ {α:Type} (n:Nat) (l:List α),(l.take n).length=min n l.length)∧(∀ {α:Type} (n:Nat) (l:List α),(l.drop n).length=l.length-n) :=
 ⟨fun _ _ _=>List.length_set,fun _ _=>List.length_append,fun _ _=>rfl,rfl,fun _=>rfl,fun _ _=>List.length_take,fun _ _=>List.length_drop⟩
end Go.Proofs.Ytkpijdndakljjaa
