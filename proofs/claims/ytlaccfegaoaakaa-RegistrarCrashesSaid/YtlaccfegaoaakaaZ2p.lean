import Derived.Test.YtlaccfegaoaakaaB4p
import Derived.Test.YtlaccfegaoaakaaXBp
import Derived.Test.YtlaccfegaoaakaaLp
set_option linter.unusedSectionVars false
set_option linter.unusedSimpArgs false
set_option linter.unusedVariables false
set_option maxRecDepth 1000000
set_option maxHeartbeats 0
namespace Go.Proofs.Ytlaccfegaoaakaa
open Go.RowKit
def plan34:List (Nat×PL):=[]
noncomputable def registrar_within:(Int×(Int×Int))→Option Bool:=fun (a1,(a2,a3)) =>
 bif (decide (a1≥a2)) then
 some (decide (a1≤a3))
 else
 some Bool.false
noncomputable def cons34:List (Nat×CE):=[]
theorem cons34_ok:ConL Try.prog cons34:=trivial
noncomputable def ce34:CE:=⟨[(.tmp 0 false [dI]),(.tmp 1 false [dI]),(.tmp 2 false [dI])],[(.tmp 0 false [dO])],registrar_within⟩
theorem con34:ConOk Try.prog 34 ce34 :=
 tree_ok (plan:=planOf plan34) (eg:=egNo) KK tabL_ok (conOf_ok cons34_ok) Try.func34 (by kernel_rfl) (by kernel_rfl) 10000 (fun a r h=>Eq.trans (show _=registrar_within a from by kernel_rfl) h)
def plan10:List (Nat×PL):=[]
noncomputable def registrar_Valid:(Int×(Int×(Int×Int)))→Option Bool:=fun (a1,(a2,(a3,a4))) =>
 bif (decide (a1≥z1)) then
 bif (decide (a2≥a1)) then
 bif (decide (a3≥a2)) then
 bif (decide (a3≤(10000000:Int))) then
 bif (decide (a4≥z1)) then
 some (decide (a4≤(100:Int)))
 else
 some Bool.false
 else
 some Bool.false
 else
 some Bool.false
 else
 some Bool.false
 else
 some Bool.false
noncomputable def cons10:List (Nat×CE):=[]
theorem cons10_ok:ConL Try.prog cons10:=trivial
noncomputable def ce10:CE:=⟨[(.tmp 0 true [dI,dI,dI,dI])],[(.tmp 0 false [dO])],registrar_Valid⟩
theorem con10:ConOk Try.prog 10 ce10 :=
 tree_ok (plan:=planOf plan10) (eg:=egNo) KK tabL_ok (conOf_ok cons10_ok) Try.func10 (by kernel_rfl) (by kernel_rfl) 10000 (fun a r h=>Eq.trans (show _=registrar_Valid a from by kernel_rfl) h)
def plan12:List (Nat×PL):=[(262657,(.carry [])),(134480385,(.carry [])),(68853957121,(.carry [])),(18049651735527937,(.carry [])),(9241421688590303745,(.carry [])),(1240362622532514091349837830,(.carry [.tmp 79 false [dI]])),(325153619321163373997929418457106,(.carry [.tmp 0 false [dI]])),(22344386578566886589492719673984208799269377,(.carry [])),(85237070383327051513313209472019595777,(.carry [])),(786173211477001113193776809818996398598532324635760132114,(.carry [.tmp 0 false [dI]])),(11440325928226245935055860727722549716533381126,(.carry [.tmp 8 false [dI]])),(206090590349426979817069428033190991914213657709316704072892929,(.carry [])),(27661010798878815332948914248874403524792128044314172453112035183691782,(.carry [.tmp 8 false [dI]]))]
noncomputable def registrar_Formed:(LU×(LU×(Int×(Bool×((List (LU×(Int×Int)))×(Int×(LU×(Int×(List LU)))))))))→Option Bool:=fun (a1,(a2,(a3,(a4,(a5,(a6,(a7,(a8,a9)))))))) =>
 joinO (bindO (registrar_within ((lI a1),(z1,(255:Int)))) fun x10 =>
 bif (!x10) then
 outO (some Bool.false)
 else
 bindO (registrar_within ((lI a2),(z1,(255:Int)))) fun x11 =>
 bif (!x11) then
 outO (some Bool.false)
 else
 bindO (registrar_within (a3,(z0,(2147483647:Int)))) fun x12 =>
 bif (!x12) then
 outO (some Bool.false)
 else
 some (Sum.inl ())) fun _ =>
 joinO (bindO (registrar_within (a6,((-1:Int),(2147483647:Int)))) fun x13 =>
 bif (!x13) then
 outO (some Bool.false)
 else
 bif (decide ((lI a5) > (20:Int))) then
 outO (some Bool.false)
 else
 bif (decide ((lI a9) > (10:Int))) then
 outO (some Bool.false)
 else
 some (Sum.inl ())) fun _ =>
 joinO (bif a4 then
 bif (decide ((lI a5) > z0)) then
 outO (some Bool.false)
 else
 bif (decide (a6≠z0)) then
 outO (some Bool.false)
 else
 some (Sum.inl ())
 else
 some (Sum.inl ())) fun _ =>
 bif (decide ((lI a7) > (255:Int))) then
 some Bool.false
 else
 bindO (registrar_within (a8,(z0,(2147483647:Int)))) fun x14 =>
 bif (!x14) then
 some Bool.false
 else
 joinO (bif (decide (a8≠z0)) then
 bif (decide (a7=([]:List UInt8))) then
 outO (some Bool.false)
 else
 bif (decide ((lI a5) > z1)) then
 outO (some Bool.false)
 else
 some (Sum.inl ())
 else
 some (Sum.inl ())) fun _ =>
 joinO (loopO (fun v15 =>
 bif (decide (v15<(lI a5))) then
 bif (iR v15 a5) then
 bindO a5[(Int.toNat v15)]? fun x16 =>
 joinO (bindO (registrar_within ((lI x16.1),(z1,(1000:Int)))) fun x17 =>
 bif (!x17) then
 outO (outO (outO (some Bool.false)))
 else
 bindO (registrar_within (x16.2.1,(z0,(1000:Int)))) fun x18 =>
 bif (!x18) then
 outO (outO (outO (some Bool.false)))
 else
 bindO (registrar_within (x16.2.2,((-1:Int),(2147483647:Int)))) fun x19 =>
 bif (!x19) then
 outO (outO (outO (some Bool.false)))
 else
 some (Sum.inl ())) fun _ =>
 bif (decide ((z0≤v15)∧(v15≤(lI a5)))) then
 bindO (some (List.take (Int.toNat v15) a5)) fun x20 =>
 joinO (joinO (loopO (fun v21 =>
 bif (decide (v21<(lI x20))) then
 bif (iR v21 x20) then
 bindO x20[(Int.toNat v21)]? fun x22 =>
 bif (decide (x22.1=x16.1)) then
 outO (outO (some (Sum.inl v21)))
 else
 some (Sum.inl (wI (v21+z1)))
 else none
 else
 outO (some (Sum.inl ()))) z0) fun _ =>
 some (Sum.inl (-1:Int))) fun v24 =>
 bif (decide (v24≥z0)) then
 outO (outO (some Bool.false))
 else
 some (Sum.inl (wI (v15+z1)))
 else none
 else none
 else
 outO (some (Sum.inl ()))) z0) fun _ =>
 joinO (joinO (loopO (fun v26 =>
 bif (decide (v26<(lI a9))) then
 bif (iR v26 a9) then
 bindO a9[(Int.toNat v26)]? fun x27 =>
 bindO (registrar_within ((lI x27),(z1,(1000:Int)))) fun x28 =>
 bif (!x28) then
 outO (outO (some (Sum.inl v26)))
 else
 some (Sum.inl (wI (v26+z1)))
 else none
 else
 outO (some (Sum.inl ()))) z0) fun _ =>
 some (Sum.inl (-1:Int))) fun v30 =>
 some (!(decide (v30≥z0)))
noncomputable def cons12:List (Nat×CE):=[(34,ce34)]
theorem cons12_ok:ConL Try.prog cons12:=⟨con34,trivial⟩
noncomputable def ce12:CE:=⟨[(.tmp 0 true [dS,dS,dI,dO,(.dat (.list (.pair .str (.pair uI6 uI6)))),dI,dS,dI,(.dat (.list .str))])],[(.tmp 0 false [dO])],registrar_Formed⟩
theorem con12:ConOk Try.prog 12 ce12 :=
 tree_ok (plan:=planOf plan12) (eg:=egNo) KK tabL_ok (conOf_ok cons12_ok) Try.func12 (by kernel_rfl) (by kernel_rfl) 10000 (fun a r h=>Eq.trans (show _=registrar_Formed a from by kernel_rfl) h)
def plan33:List (Nat×PL):=[]
noncomputable def dialtoneref22_within:(Int×(Int×Int))→Option Bool:=fun (a1,(a2,a3)) =>
 bif (decide (a1≥a2)) then
 some (decide (a1≤a3))
 else
 some Bool.false
noncomputable def cons33:List (Nat×CE):=[]
theorem cons33_ok:ConL Try.prog cons33:=trivial
noncomputable def ce33:CE:=⟨[(.tmp 0 false [dI]),(.tmp 1 false [dI]),(.tmp 2 false [dI])],[(.tmp 0 false [dO])],dialtoneref22_within⟩
theorem con33:ConOk Try.prog 33 ce33 :=
 tree_ok (plan:=planOf plan33) (eg:=egNo) KK tabL_ok (conOf_ok cons33_ok) Try.func33 (by kernel_rfl) (by kernel_rfl) 10000 (fun a r h=>Eq.trans (show _=dialtoneref22_within a from by kernel_rfl) h)
def plan11:List (Nat×PL):=[]
noncomputable def dialtoneref22_Valid:(Int×(Int×(Int×Int)))→Option Bool:=fun (a1,(a2,(a3,a4))) =>
 bif (decide (z1≤a1)) then
 bif (decide (a1≤a2)) then
 bif (decide (a2≤a3)) then
 bif (decide (a3≤(10000000:Int))) then
 bindO (dialtoneref22_within (a4,(z1,(100:Int)))) fun x5 =>
 some x5
 else
 some Bool.false
 else
 some Bool.false
 else
 some Bool.false
 else
 some Bool.false
noncomputable def cons11:List (Nat×CE):=[(33,ce33)]
theorem cons11_ok:ConL Try.prog cons11:=⟨con33,trivial⟩
noncomputable def ce11:CE:=⟨[(.tmp 0 true [dI,dI,dI,dI])],[(.tmp 0 false [dO])],dialtoneref22_Valid⟩
theorem con11:ConOk Try.prog 11 ce11 :=
 tree_ok (plan:=planOf plan11) (eg:=egNo) KK tabL_ok (conOf_ok cons11_ok) Try.func11 (by kernel_rfl) (by kernel_rfl) 10000 (fun a r h=>Eq.trans (show _=dialtoneref22_Valid a from by kernel_rfl) h)
noncomputable def dialtoneref22_contacts:(LU×(LU×(Int×(Bool×((List (LU×(Int×Int)))×(Int×(LU×(Int×(List LU)))))))))→Option Bool:=fun (a1,(a2,(a3,(a4,(a5,(a6,(a7,(a8,a9)))))))) =>
 joinO (bif (decide ((lI a5) > (20:Int))) then
 outO (some Bool.false)
 else
 bif a4 then
 bif (decide ((lI a5)≠z0)) then
 outO (some Bool.false)
 else
 bif (decide (a6≠z0)) then
 outO (some Bool.false)
 else
 some (Sum.inl ())
 else
 some (Sum.inl ())) fun _ =>
 joinO (loopO (fun v10 =>
 bif (decide (v10<(lI a5))) then
 joinO (bif (iR v10 a5) then
 bindO a5[(Int.toNat v10)]? fun x11 =>
 joinO (bindO (dialtoneref22_within ((lI x11.1),(z1,(1000:Int)))) fun x12 =>
 bif (!x12) then
 outO (outO (outO (outO (some Bool.false))))
 else
 bindO (dialtoneref22_within (x11.2.1,(z0,(1000:Int)))) fun x13 =>
 bif (!x13) then
 outO (outO (outO (outO (some Bool.false))))
 else
 bindO (dialtoneref22_within (x11.2.2,((-1:Int),(2147483647:Int)))) fun x14 =>
 bif (!x14) then
 outO (outO (outO (outO (some Bool.false))))
 else
 some (Sum.inl ())) fun _ =>
 loopO (fun v15 =>
 bif (decide (v15<v10)) then
 bif (iR v15 a5) then
 bindO a5[(Int.toNat v15)]? fun x16 =>
 bif (decide (x16.1=x11.1)) then
 outO (outO (outO (outO (some Bool.false))))
 else
 some (Sum.inl (wI (v15+z1)))
 else none
 else
 outO (some (Sum.inl v15))) z0
 else none) fun v18 =>
 some (Sum.inl (wI (v10+z1)))
 else
 outO (some (Sum.inl ()))) z0) fun _ =>
 some Bool.true
noncomputable def dialtoneref22_Formed:(LU×(LU×(Int×(Bool×((List (LU×(Int×Int)))×(Int×(LU×(Int×(List LU)))))))))→Option Bool:=fun (a1,(a2,(a3,(a4,(a5,(a6,(a7,(a8,a9)))))))) =>
 joinO (bindO (dialtoneref22_within ((lI a1),(z1,(255:Int)))) fun x10 =>
 bif (!x10) then
 outO (some Bool.false)
 else
 bindO (dialtoneref22_within ((lI a2),(z1,(255:Int)))) fun x11 =>
 bif (!x11) then
 outO (some Bool.false)
 else
 bindO (dialtoneref22_within (a3,(z0,(2147483647:Int)))) fun x12 =>
 bif (!x12) then
 outO (some Bool.false)
 else
 bindO (dialtoneref22_within (a6,((-1:Int),(2147483647:Int)))) fun x13 =>
 bif (!x13) then
 outO (some Bool.false)
 else
 some (Sum.inl ())) fun _ =>
 joinO (bindO (dialtoneref22_contacts (a1,(a2,(a3,(a4,(a5,(a6,(a7,(a8,a9))))))))) fun x14 =>
 bif (!x14) then
 outO (some Bool.false)
 else
 bif (decide ((lI a7) > (255:Int))) then
 outO (some Bool.false)
 else
 bindO (dialtoneref22_within (a8,(z0,(2147483647:Int)))) fun x15 =>
 bif (!x15) then
 outO (some Bool.false)
 else
 some (Sum.inl ())) fun _ =>
 joinO (bif (decide (a8≠z0)) then
 bif (decide ((lI a7)=z0)) then
 outO (some Bool.false)
 else
 bif (decide ((lI a5) > z1)) then
 outO (some Bool.false)
 else
 bif (decide ((lI a9) > (10:Int))) then
 outO (some Bool.false)
 else
 some (Sum.inl ())
 else
 bif (decide ((lI a9) > (10:Int))) then
 outO (some Bool.false)
 else
 some (Sum.inl ())) fun _ =>
 joinO (loopO (fun v16 =>
 bif (decide (v16<(lI a9))) then
 bif (iR v16 a9) then
 bindO a9[(Int.toNat v16)]? fun x17 =>
 bindO (dialtoneref22_within ((lI x17),(z1,(1000:Int)))) fun x18 =>
 bif (!x18) then
 outO (outO (some Bool.false))
 else
 some (Sum.inl (wI (v16+z1)))
 else none
 else
 outO (some (Sum.inl ()))) z0) fun _ =>
 some Bool.true
def plan8:List (Nat×PL):=[(262657,(.carry [])),(134480385,(.carry [])),(18049651601311750,(.carry [.tmp 3 false [dI]])),(68853957121,(.carry [])),(9241421688456087558,(.carry [.tmp 4 false [dI]]))]
noncomputable def dialtonelaw22_few:(LU×(LU×(Int×(Bool×((List (LU×(Int×Int)))×(Int×(LU×(Int×(List LU)))))))))→Option Bool:=fun (a1,(a2,(a3,(a4,(a5,(a6,(a7,(a8,a9)))))))) =>
 joinO (bif (decide ((lI a5) > (30:Int))) then
 outO (some Bool.false)
 else
 bif (decide ((lI a9) > (30:Int))) then
 outO (some Bool.false)
 else
 bif (decide ((lI a1) > (2000:Int))) then
 outO (some Bool.false)
 else
 bif (decide ((lI a2) > (2000:Int))) then
 outO (some Bool.false)
 else
 bif (decide ((lI a7) > (2000:Int))) then
 outO (some Bool.false)
 else
 some (Sum.inl ())) fun _ =>
 joinO (loopO (fun v10 =>
 bif (decide (v10<(lI a5))) then
 bif (iR v10 a5) then
 bindO a5[(Int.toNat v10)]? fun x11 =>
 bif (decide ((lI x11.1) > (2000:Int))) then
 outO (outO (some Bool.false))
 else
 some (Sum.inl (wI (v10+z1)))
 else none
 else
 outO (some (Sum.inl ()))) z0) fun _ =>
 joinO (loopO (fun v13 =>
 bif (decide (v13<(lI a9))) then
 bif (iR v13 a9) then
 bindO a9[(Int.toNat v13)]? fun x14 =>
 bif (decide ((lI x14) > (2000:Int))) then
 outO (outO (some Bool.false))
 else
 some (Sum.inl (wI (v13+z1)))
 else none
 else
 outO (some (Sum.inl ()))) z0) fun _ =>
 some Bool.true
noncomputable def cons8:List (Nat×CE):=[(9,⟨[],riB,(fun _=>some true)⟩)]
theorem cons8_ok:ConL Try.prog cons8:=⟨con_true (by kernel_rfl) lives_o,trivial⟩
noncomputable def ce8:CE:=⟨[(.tmp 0 true [dS,dS,dI,dO,(.dat (.list (.pair .str (.pair uI6 uI6)))),dI,dS,dI,(.dat (.list .str))])],[(.tmp 0 false [dO])],dialtonelaw22_few⟩
theorem con8:ConOk Try.prog 8 ce8 :=
 tree_ok (plan:=planOf plan8) (eg:=egNo) KK tabL_ok (conOf_ok cons8_ok) Try.func8 (by kernel_rfl) (by kernel_rfl) 10000 (fun a r h=>Eq.trans (show _=dialtonelaw22_few a from by kernel_rfl) h)
end Go.Proofs.Ytlaccfegaoaakaa

set_option maxRecDepth 100000
namespace Go.Proofs.Ytlaccfegaoaakaa
open Go.RowKit
abbrev Tx:=List UInt8
abbrev Ct:=Tx×(Int×Int)
noncomputable def fkB {γ:Type} (x16:Ct) (x20:List Ct):Int→Option (Int ⊕ (Unit ⊕ (Int ⊕ γ))) :=
(fun v21 =>
 bif (decide (v21<(((List.length x20):Nat):Int))) then
 bif (decide (((0:Int)≤v21)∧(v21<(((List.length x20):Nat):Int)))) then
 bindO x20[(Int.toNat v21)]? fun x22 =>
 bif (decide (x22.1=x16.1)) then
 outO (outO (some (Sum.inl v21)))
 else
 some (Sum.inl (Go.IntKind.wrap .i64 (v21+(1:Int))))
 else none
 else
 outO (some (Sum.inl ())))
noncomputable def fcB (a5:List Ct):Int→Option (Int ⊕ (Unit ⊕ Bool)) :=
(fun v15 =>
 bif (decide (v15<(((List.length a5):Nat):Int))) then
 bif (decide (((0:Int)≤v15)∧(v15<(((List.length a5):Nat):Int)))) then
 bindO a5[(Int.toNat v15)]? fun x16 =>
 joinO (bindO (registrar_within ((((List.length x16.1):Nat):Int),((1:Int),(1000:Int)))) fun x17 =>
 bif (!x17) then
 outO (outO (outO (some Bool.false)))
 else
 bindO (registrar_within (x16.2.1,((0:Int),(1000:Int)))) fun x18 =>
 bif (!x18) then
 outO (outO (outO (some Bool.false)))
 else
 bindO (registrar_within (x16.2.2,((-1:Int),(2147483647:Int)))) fun x19 =>
 bif (!x19) then
 outO (outO (outO (some Bool.false)))
 else
 some (Sum.inl ())) fun _ =>
 bif (decide (((0:Int)≤v15)∧(v15≤(((List.length a5):Nat):Int)))) then
 bindO (some (List.take (Int.toNat v15) a5)) fun x20 =>
 joinO (joinO (loopO (fkB x16 x20) (0:Int)) fun _ =>
 some (Sum.inl (-1:Int))) fun v24 =>
 bif (decide (v24≥(0:Int))) then
 outO (outO (some Bool.false))
 else
 some (Sum.inl (Go.IntKind.wrap .i64 (v15+(1:Int))))
 else none
 else none
 else
 outO (some (Sum.inl ())))
noncomputable def fpB {γ:Type} (a9:List Tx):Int→Option (Int ⊕ (Unit ⊕ (Int ⊕ γ))) :=
(fun v26 =>
 bif (decide (v26<(((List.length a9):Nat):Int))) then
 bif (decide (((0:Int)≤v26)∧(v26<(((List.length a9):Nat):Int)))) then
 bindO a9[(Int.toNat v26)]? fun x27 =>
 bindO (registrar_within ((((List.length x27):Nat):Int),((1:Int),(1000:Int)))) fun x28 =>
 bif (!x28) then
 outO (outO (some (Sum.inl v26)))
 else
 some (Sum.inl (Go.IntKind.wrap .i64 (v26+(1:Int))))
 else none
 else
 outO (some (Sum.inl ())))
theorem formedP_eq (a1 a2:Tx) (a3:Int) (a4:Bool) (a5:List Ct) (a6:Int) (a7:Tx) (a8:Int) (a9:List Tx):registrar_Formed (a1,(a2,(a3,(a4,(a5,(a6,(a7,(a8,a9)))))))) =
 joinO (bindO (registrar_within ((((List.length a1):Nat):Int),((1:Int),(255:Int)))) fun x10 =>
 bif (!x10) then
 outO (some Bool.false)
 else
 bindO (registrar_within ((((List.length a2):Nat):Int),((1:Int),(255:Int)))) fun x11 =>
 bif (!x11) then
 outO (some Bool.false)
 else
 bindO (registrar_within (a3,((0:Int),(2147483647:Int)))) fun x12 =>
 bif (!x12) then
 outO (some Bool.false)
 else
 some (Sum.inl ())) fun _ =>
 joinO (bindO (registrar_within (a6,((-1:Int),(2147483647:Int)))) fun x13 =>
 bif (!x13) then
 outO (some Bool.false)
 else
 bif (decide ((((List.length a5):Nat):Int) > (20:Int))) then
 outO (some Bool.false)
 else
 bif (decide ((((List.length a9):Nat):Int) > (10:Int))) then
 outO (some Bool.false)
 else
 some (Sum.inl ())) fun _ =>
 joinO (bif a4 then
 bif (decide ((((List.length a5):Nat):Int) > (0:Int))) then
 outO (some Bool.false)
 else
 bif (decide (a6≠(0:Int))) then
 outO (some Bool.false)
 else
 some (Sum.inl ())
 else
 some (Sum.inl ())) fun _ =>
 bif (decide ((((List.length a7):Nat):Int) > (255:Int))) then
  some Bool.false
 else
  bindO (registrar_within (a8,((0:Int),(2147483647:Int)))) fun x14 =>
  bif (!x14) then
   some Bool.false
  else
   joinO (bif (decide (a8≠(0:Int))) then
 bif (decide (a7=([]:List UInt8))) then
 outO (some Bool.false)
 else
 bif (decide ((((List.length a5):Nat):Int) > (1:Int))) then
 outO (some Bool.false)
 else
 some (Sum.inl ())
 else
 some (Sum.inl ())) fun _ =>
   joinO (loopO (fcB a5) (0:Int)) fun _ =>
   joinO (joinO (loopO (fpB a9) (0:Int)) fun _ =>
 some (Sum.inl (-1:Int))) fun v30 =>
   some (!(decide (v30≥(0:Int)))):=rfl
noncomputable def rkB {γ:Type} (a5:List Ct) (x11:Ct) (v10:Int):Int→Option (Int ⊕ (Int ⊕ (γ ⊕ (Unit ⊕ Bool)))) :=
(fun v15 =>
 bif (decide (v15<v10)) then
 bif (decide (((0:Int)≤v15)∧(v15<(((List.length a5):Nat):Int)))) then
 bindO a5[(Int.toNat v15)]? fun x16 =>
 bif (decide (x16.1=x11.1)) then
 outO (outO (outO (outO (some Bool.false))))
 else
 some (Sum.inl (Go.IntKind.wrap .i64 (v15+(1:Int))))
 else none
 else
 outO (some (Sum.inl v15)))
noncomputable def rcB (a5:List Ct):Int→Option (Int ⊕ (Unit ⊕ Bool)) :=
(fun v10 =>
 bif (decide (v10<(((List.length a5):Nat):Int))) then
 joinO (bif (decide (((0:Int)≤v10)∧(v10<(((List.length a5):Nat):Int)))) then
 bindO a5[(Int.toNat v10)]? fun x11 =>
 joinO (bindO (dialtoneref22_within ((((List.length x11.1):Nat):Int),((1:Int),(1000:Int)))) fun x12 =>
 bif (!x12) then
 outO (outO (outO (outO (some Bool.false))))
 else
 bindO (dialtoneref22_within (x11.2.1,((0:Int),(1000:Int)))) fun x13 =>
 bif (!x13) then
 outO (outO (outO (outO (some Bool.false))))
 else
 bindO (dialtoneref22_within (x11.2.2,((-1:Int),(2147483647:Int)))) fun x14 =>
 bif (!x14) then
 outO (outO (outO (outO (some Bool.false))))
 else
 some (Sum.inl ())) fun _ =>
 loopO (rkB a5 x11 v10) (0:Int)
 else none) fun v18 =>
 some (Sum.inl (Go.IntKind.wrap .i64 (v10+(1:Int))))
 else
 outO (some (Sum.inl ())))
theorem contacts_eq (a1 a2:Tx) (a3:Int) (a4:Bool) (a5:List Ct) (a6:Int) (a7:Tx) (a8:Int) (a9:List Tx):dialtoneref22_contacts (a1,(a2,(a3,(a4,(a5,(a6,(a7,(a8,a9)))))))) =
 joinO (bif (decide ((((List.length a5):Nat):Int) > (20:Int))) then
 outO (some Bool.false)
 else
 bif a4 then
 bif (decide ((((List.length a5):Nat):Int)≠(0:Int))) then
 outO (some Bool.false)
 else
 bif (decide (a6≠(0:Int))) then
 outO (some Bool.false)
 else
 some (Sum.inl ())
 else
 some (Sum.inl ())) fun _ =>
 joinO (loopO (rcB a5) (0:Int)) fun _ =>
 some Bool.true:=rfl
noncomputable def rpB (a9:List Tx):Int→Option (Int ⊕ (Unit ⊕ Bool)) :=
(fun v16 =>
 bif (decide (v16<(((List.length a9):Nat):Int))) then
 bif (decide (((0:Int)≤v16)∧(v16<(((List.length a9):Nat):Int)))) then
 bindO a9[(Int.toNat v16)]? fun x17 =>
 bindO (dialtoneref22_within ((((List.length x17):Nat):Int),((1:Int),(1000:Int)))) fun x18 =>
 bif (!x18) then
 outO (outO (some Bool.false))
 else
 some (Sum.inl (Go.IntKind.wrap .i64 (v16+(1:Int))))
 else none
 else
 outO (some (Sum.inl ())))
theorem formedR_eq (a1 a2:Tx) (a3:Int) (a4:Bool) (a5:List Ct) (a6:Int) (a7:Tx) (a8:Int) (a9:List Tx):dialtoneref22_Formed (a1,(a2,(a3,(a4,(a5,(a6,(a7,(a8,a9)))))))) =
 joinO (bindO (dialtoneref22_within ((((List.length a1):Nat):Int),((1:Int),(255:Int)))) fun x10 =>
 bif (!x10) then
 outO (some Bool.false)
 else
 bindO (dialtoneref22_within ((((List.length a2):Nat):Int),((1:Int),(255:Int)))) fun x11 =>
 bif (!x11) then
 outO (some Bool.false)
 else
 bindO (dialtoneref22_within (a3,((0:Int),(2147483647:Int)))) fun x12 =>
 bif (!x12) then
 outO (some Bool.false)
 else
 bindO (dialtoneref22_within (a6,((-1:Int),(2147483647:Int)))) fun x13 =>
 bif (!x13) then
 outO (some Bool.false)
 else
 some (Sum.inl ())) fun _ =>
 joinO (bindO (dialtoneref22_contacts (a1,(a2,(a3,(a4,(a5,(a6,(a7,(a8,a9))))))))) fun x14 =>
 bif (!x14) then
 outO (some Bool.false)
 else
 bif (decide ((((List.length a7):Nat):Int) > (255:Int))) then
 outO (some Bool.false)
 else
 bindO (dialtoneref22_within (a8,((0:Int),(2147483647:Int)))) fun x15 =>
 bif (!x15) then
 outO (some Bool.false)
 else
 some (Sum.inl ())) fun _ =>
 joinO (bif (decide (a8≠(0:Int))) then
 bif (decide ((((List.length a7):Nat):Int)=(0:Int))) then
 outO (some Bool.false)
 else
 bif (decide ((((List.length a5):Nat):Int) > (1:Int))) then
 outO (some Bool.false)
 else
 bif (decide ((((List.length a9):Nat):Int) > (10:Int))) then
 outO (some Bool.false)
 else
 some (Sum.inl ())
 else
 bif (decide ((((List.length a9):Nat):Int) > (10:Int))) then
 outO (some Bool.false)
 else
 some (Sum.inl ())) fun _ =>
 joinO (loopO (rpB a9) (0:Int)) fun _ =>
 some Bool.true:=rfl
noncomputable def fwB (a5:List Ct):Int→Option (Int ⊕ (Unit ⊕ Bool)) :=
(fun v10 =>
 bif (decide (v10<(((List.length a5):Nat):Int))) then
 bif (decide (((0:Int)≤v10)∧(v10<(((List.length a5):Nat):Int)))) then
 bindO a5[(Int.toNat v10)]? fun x11 =>
 bif (decide ((((List.length x11.1):Nat):Int) > (2000:Int))) then
 outO (outO (some Bool.false))
 else
 some (Sum.inl (Go.IntKind.wrap .i64 (v10+(1:Int))))
 else none
 else
 outO (some (Sum.inl ())))
noncomputable def fwB2 (a9:List Tx):Int→Option (Int ⊕ (Unit ⊕ Bool)) :=
(fun v13 =>
 bif (decide (v13<(((List.length a9):Nat):Int))) then
 bif (decide (((0:Int)≤v13)∧(v13<(((List.length a9):Nat):Int)))) then
 bindO a9[(Int.toNat v13)]? fun x14 =>
 bif (decide ((((List.length x14):Nat):Int) > (2000:Int))) then
 outO (outO (some Bool.false))
 else
 some (Sum.inl (Go.IntKind.wrap .i64 (v13+(1:Int))))
 else none
 else
 outO (some (Sum.inl ())))
theorem few_eq (a1 a2:Tx) (a3:Int) (a4:Bool) (a5:List Ct) (a6:Int) (a7:Tx) (a8:Int) (a9:List Tx):dialtonelaw22_few (a1,(a2,(a3,(a4,(a5,(a6,(a7,(a8,a9)))))))) =
 joinO (bif (decide ((((List.length a5):Nat):Int) > (30:Int))) then
 outO (some Bool.false)
 else
 bif (decide ((((List.length a9):Nat):Int) > (30:Int))) then
 outO (some Bool.false)
 else
 bif (decide ((((List.length a1):Nat):Int) > (2000:Int))) then
 outO (some Bool.false)
 else
 bif (decide ((((List.length a2):Nat):Int) > (2000:Int))) then
 outO (some Bool.false)
 else
 bif (decide ((((List.length a7):Nat):Int) > (2000:Int))) then
 outO (some Bool.false)
 else
 some (Sum.inl ())) fun _ =>
 joinO (loopO (fwB a5) (0:Int)) fun _ =>
 joinO (loopO (fwB2 a9) (0:Int)) fun _ =>
 some Bool.true:=rfl
theorem Is.and {γ:Type} {k:γ→Option Bool} {P Q:Prop} (x:Option (γ ⊕ Bool)) (h:(P∧∃g,x=Option.some (.inl g)∧Is (k g) Q)∨(¬P∧x=Option.some (.inr false))):Is (joinO x k) (P∧Q):=by
 rcases h with ⟨h,g,e,hp⟩ | ⟨h,e⟩
 ·rw [e]
  show Is (k g) _
  rcases hp with ⟨q,e'⟩ | ⟨q,e'⟩
  ·exact .inl ⟨⟨h,q⟩,e'⟩
  ·exact .inr ⟨fun k=>q k.2,e'⟩
 ·rw [e]
  exact .inr ⟨fun q=>h q.1,rfl⟩
theorem within_b {β:Type} (a b c:Int) (f:Bool→Option β):bindO (registrar_within (a,(b,c))) f=f (decide (b≤a∧a≤c)):=by
 have e:registrar_within (a,(b,c))=bif decide (a≥b) then some (decide (a≤c)) else some false:=rfl
 rw [e,cond_ite]
 by_cases h:b≤a
 ·rw [if_pos (show a≥b from h)]
  simp [h,bindO_some]
 ·rw [if_neg (show ¬a≥b from h)]
  simp [h,bindO_some]
theorem withinR_b {β:Type} (a b c:Int) (f:Bool→Option β):bindO (dialtoneref22_within (a,(b,c))) f=f (decide (b≤a∧a≤c)):=within_b a b c f
theorem loop_all0 {body:Int→Option (Int ⊕ (Unit ⊕ Bool))} (n:Nat) (ok:Nat→Prop) (h1:∀i:Nat,i<n→ok i→body (i:Int)=some (.inl ((i+1:Nat):Int))) (h2:∀i:Nat,i<n→¬ok i→body (i:Int)=some (.inr (.inr false))) (h3:body (n:Int)=some (.inr (.inl ()))) :
 ((∀i,i<n→ok i)∧loopO body (0:Int)=some (.inl ()))∨(¬(∀i,i<n→ok i)∧loopO body (0:Int)=some (.inr false)):=by
 have hs:=loopO_search (body:=body) (fun i=>(i:Int)) n (fun i=>¬ok i) (r0 := .inl ()) (r1 := .inr false) (x:=0) rfl (fun i hi hb=>h1 i hi (Classical.not_not.1 hb)) h2 h3
 rcases hs with ⟨⟨i,hi,hb⟩,e⟩ | ⟨hn,e⟩
 ·exact .inr ⟨fun h=>hb (h i hi),e⟩
 ·exact .inl ⟨fun i hi=>Classical.byContradiction fun h=>hn ⟨i,hi,h⟩,e⟩
abbrev c0:Ct:=([],(0,0))
abbrev NO (n:Int):Prop := -1≤n∧n≤2147483647
abbrev NN (n:Int):Prop:=0≤n∧n≤2147483647
abbrev Ln (n:Nat) (b:Int):Prop:=1≤(n:Int)∧(n:Int)≤b
abbrev CW (x:Ct):Prop:=Ln x.1.length 1000∧(0≤x.2.1∧x.2.1≤1000)∧NO x.2.2
def COK (l:List Ct) (i:Nat):Prop:=CW (l.getD i c0)∧∀k,k<i→(l.getD k c0).1≠(l.getD i c0).1
abbrev POK (l:List Tx) (i:Nat):Prop:=Ln (l.getD i []).length 1000
theorem fk_j {γ:Type} (l:List Ct) {i:Nat} (hi:i<l.length) (hl:l.length≤1000) :
 (¬(∀k,k<i→(l.getD k c0).1≠(l.getD i c0).1)∧∃k:Nat,loopO (fkB (γ:=γ) (l.getD i c0) (l.take i)) (0:Int)=some (.inr (.inl (k:Int))))∨((∀k,k<i→(l.getD k c0).1≠(l.getD i c0).1)∧loopO (fkB (γ:=γ) (l.getD i c0) (l.take i)) (0:Int)=some (.inl ())):=by
 have ht:(l.take i).length=i:=by rw [List.length_take];omega
 have hg:∀k,k<i→(l.take i).getD k c0=l.getD k c0:=fun k hk=>by
  rw [List.getD_eq_getElem?_getD,List.getD_eq_getElem?_getD,List.getElem?_take,if_pos hk]
 rcases loop_first (body:=fkB (γ:=γ) (l.getD i c0) (l.take i)) i (fun k=>(l.getD k c0).1=(l.getD i c0).1) (fun k => .inr (.inl (k:Int))) (.inl ())
  (fun k hk hb=>by
    obtain ⟨x,hx,hxb⟩:=get_at c0 (show k<(l.take i).length by omega)
    rw [hg k hk] at hx
    rw [hx] at hb
    have hn:((k:Int)+1)=((k+1:Nat):Int):=rfl
    unfold fkB
    simp (disch:=(first | omega | (simp only [LNl];omega))) only [↓SDl,SDr,if_pos,if_neg,↓hxb,wrap_i64',hn,ht,hb,decide_false])
  (fun k hk hb=>by
    obtain ⟨x,hx,hxb⟩:=get_at c0 (show k<(l.take i).length by omega)
    rw [hg k hk] at hx
    rw [hx] at hb
    unfold fkB
    simp (disch:=(first | omega | (simp only [LNl];omega))) only [↓SDl,SDr,if_pos,if_neg,↓hxb,ht,hb,decide_true])
  (by unfold fkB;simp (disch:=(first | omega | (simp only [LNl];omega))) only [↓SDl,SDr,if_neg,ht]) with ⟨k,k1,k2,_,e⟩ | ⟨h,e⟩
 ·exact .inl ⟨fun g=>g k k1 k2,k,e⟩
 ·exact .inr ⟨h,e⟩
theorem fc_j (l:List Ct) (hl:l.length≤1000):((∀i,i<l.length→COK l i)∧loopO (fcB l) (0:Int)=some (.inl ()))∨(¬(∀i,i<l.length→COK l i)∧loopO (fcB l) (0:Int)=some (.inr false)):=by
 refine loop_all0 (body:=fcB l) l.length (COK l) (fun i hi hb => ?_) (fun i hi hb => ?_) ?_
 ·obtain ⟨x,hx,hxb⟩:=get_at c0 hi
  obtain ⟨h1,h2⟩:=hb
  have hn:((i:Int)+1)=((i+1:Nat):Int):=rfl
  rcases fk_j (γ:=Int ⊕ (Unit ⊕ Bool)) l hi hl with ⟨k,_⟩ | ⟨_,e⟩
  ·exact (k h2).elim
  ·rw [hx] at h1 e
   unfold fcB
   simp (disch:=(first | omega | (simp only [LNl];omega))) only [↓SDl,SDr,if_pos,if_neg,↓hxb,↓within_b,h1.1,h1.2.1,h1.2.2,and_self,decide_true,Int.toNat_natCast,e,wrap_i64',hn]
 ·obtain ⟨x,hx,hxb⟩:=get_at c0 hi
  by_cases h1:CW x
  ·have h2:¬ ∀k,k<i→(l.getD k c0).1≠(l.getD i c0).1:=fun k=>hb ⟨by rw [hx];exact h1,k⟩
   rcases fk_j (γ:=Int ⊕ (Unit ⊕ Bool)) l hi hl with ⟨_,k,e⟩ | ⟨k,_⟩
   ·rw [hx] at e
    unfold fcB
    simp (disch:=(first | omega | (simp only [LNl];omega))) only [↓SDl,SDr,if_pos,if_neg,↓hxb,↓within_b,h1.1,h1.2.1,h1.2.2,and_self,decide_true,Int.toNat_natCast,e]
   ·exact (h2 k).elim
  ·unfold fcB
   by_cases k1:Ln x.1.length 1000
   ·by_cases k2:0≤x.2.1∧x.2.1≤1000
    ·have k3:¬NO x.2.2:=fun k=>h1 ⟨k1,k2,k⟩
     simp (disch:=(first | omega | (simp only [LNl];omega))) only [↓SDl,SDr,if_pos,if_neg,↓hxb,↓within_b,k1,k2,k3,and_self,decide_true,decide_false]
    ·simp (disch:=(first | omega | (simp only [LNl];omega))) only [↓SDl,SDr,if_pos,if_neg,↓hxb,↓within_b,k1,k2,and_self,decide_true,decide_false]
   ·simp (disch:=(first | omega | (simp only [LNl];omega))) only [↓SDl,SDr,if_pos,if_neg,↓hxb,↓within_b,k1,decide_false]
 ·unfold fcB
  simp (disch:=(first | omega | (simp only [LNl];omega))) only [↓SDl,SDr,if_neg]
theorem rk_j {γ:Type} (l:List Ct) {i:Nat} (hi:i<l.length) (hl:l.length≤1000) :
 (¬(∀k,k<i→(l.getD k c0).1≠(l.getD i c0).1)∧loopO (rkB (γ:=γ) l (l.getD i c0) (i:Int)) (0:Int)=some (.inr (.inr (.inr false))))∨((∀k,k<i→(l.getD k c0).1≠(l.getD i c0).1)∧loopO (rkB (γ:=γ) l (l.getD i c0) (i:Int)) (0:Int)=some (.inl (i:Int))):=by
 rcases loop_first (body:=rkB (γ:=γ) l (l.getD i c0) (i:Int)) i (fun k=>(l.getD k c0).1=(l.getD i c0).1) (fun _ => .inr (.inr (.inr false))) (.inl (i:Int))
  (fun k hk hb=>by
    obtain ⟨x,hx,hxb⟩:=get_at c0 (show k<l.length by omega)
    rw [hx] at hb
    have hn:((k:Int)+1)=((k+1:Nat):Int):=rfl
    unfold rkB
    simp (disch:=(first | omega | (simp only [LNl];omega))) only [↓SDl,SDr,if_pos,if_neg,↓hxb,wrap_i64',hn,hb,decide_false])
  (fun k hk hb=>by
    obtain ⟨x,hx,hxb⟩:=get_at c0 (show k<l.length by omega)
    rw [hx] at hb
    unfold rkB
    simp (disch:=(first | omega | (simp only [LNl];omega))) only [↓SDl,SDr,if_pos,if_neg,↓hxb,hb,decide_true])
  (by unfold rkB;simp (disch:=(first | omega | (simp only [LNl];omega))) only [↓SDl,SDr,if_neg]) with ⟨k,k1,k2,_,e⟩ | ⟨h,e⟩
 ·exact .inl ⟨fun g=>g k k1 k2,e⟩
 ·exact .inr ⟨h,e⟩
theorem rc_j (l:List Ct) (hl:l.length≤1000):((∀i,i<l.length→COK l i)∧loopO (rcB l) (0:Int)=some (.inl ()))∨(¬(∀i,i<l.length→COK l i)∧loopO (rcB l) (0:Int)=some (.inr false)):=by
 refine loop_all0 (body:=rcB l) l.length (COK l) (fun i hi hb => ?_) (fun i hi hb => ?_) ?_
 ·obtain ⟨x,hx,hxb⟩:=get_at c0 hi
  obtain ⟨h1,h2⟩:=hb
  have hn:((i:Int)+1)=((i+1:Nat):Int):=rfl
  rcases rk_j (γ:=Int) l hi hl with ⟨k,_⟩ | ⟨_,e⟩
  ·exact (k h2).elim
  ·rw [hx] at h1 e
   unfold rcB
   simp (disch:=(first | omega | (simp only [LNl];omega))) only [↓SDl,SDr,if_pos,if_neg,↓hxb,↓withinR_b,h1.1,h1.2.1,h1.2.2,and_self,decide_true,e,wrap_i64',hn]
 ·obtain ⟨x,hx,hxb⟩:=get_at c0 hi
  by_cases h1:CW x
  ·have h2:¬ ∀k,k<i→(l.getD k c0).1≠(l.getD i c0).1:=fun k=>hb ⟨by rw [hx];exact h1,k⟩
   rcases rk_j (γ:=Int) l hi hl with ⟨_,e⟩ | ⟨k,_⟩
   ·rw [hx] at e
    unfold rcB
    simp (disch:=(first | omega | (simp only [LNl];omega))) only [↓SDl,SDr,if_pos,if_neg,↓hxb,↓withinR_b,h1.1,h1.2.1,h1.2.2,and_self,decide_true,e]
   ·exact (h2 k).elim
  ·unfold rcB
   by_cases k1:Ln x.1.length 1000
   ·by_cases k2:0≤x.2.1∧x.2.1≤1000
    ·have k3:¬NO x.2.2:=fun k=>h1 ⟨k1,k2,k⟩
     simp (disch:=(first | omega | (simp only [LNl];omega))) only [↓SDl,SDr,if_pos,if_neg,↓hxb,↓withinR_b,k1,k2,k3,and_self,decide_true,decide_false]
    ·simp (disch:=(first | omega | (simp only [LNl];omega))) only [↓SDl,SDr,if_pos,if_neg,↓hxb,↓withinR_b,k1,k2,and_self,decide_true,decide_false]
   ·simp (disch:=(first | omega | (simp only [LNl];omega))) only [↓SDl,SDr,if_pos,if_neg,↓hxb,↓withinR_b,k1,decide_false]
 ·unfold rcB
  simp (disch:=(first | omega | (simp only [LNl];omega))) only [↓SDl,SDr,if_neg]
theorem fp_j {γ:Type} (l:List Tx) (hl:l.length≤1000):((∀i,i<l.length→POK l i)∧loopO (fpB (γ:=γ) l) (0:Int)=some (.inl ()))∨(¬(∀i,i<l.length→POK l i)∧∃k:Nat,loopO (fpB (γ:=γ) l) (0:Int)=some (.inr (.inl (k:Int)))):=by
 rcases loop_first (body:=fpB (γ:=γ) l) l.length (fun k=>¬POK l k) (fun k => .inr (.inl (k:Int))) (.inl ())
  (fun k hk hb=>by
    obtain ⟨x,hx,hxb⟩:=get_at ([]:Tx) hk
    have hb:Ln (l.getD k []).length 1000:=Classical.not_not.1 hb
    rw [hx] at hb
    have hn:((k:Int)+1)=((k+1:Nat):Int):=rfl
    unfold fpB
    simp (disch:=(first | omega | (simp only [LNl];omega))) only [↓SDl,SDr,if_pos,if_neg,↓hxb,↓within_b,wrap_i64',hn,hb,and_self,decide_true])
  (fun k hk hb=>by
    obtain ⟨x,hx,hxb⟩:=get_at ([]:Tx) hk
    have hb:¬Ln (l.getD k []).length 1000:=hb
    rw [hx] at hb
    unfold fpB
    simp (disch:=(first | omega | (simp only [LNl];omega))) only [↓SDl,SDr,if_pos,if_neg,↓hxb,↓within_b,hb,decide_false])
  (by unfold fpB;simp (disch:=(first | omega | (simp only [LNl];omega))) only [↓SDl,SDr,if_neg]) with ⟨k,k1,k2,_,e⟩ | ⟨h,e⟩
 ·exact .inr ⟨fun g=>k2 (g k k1),k,e⟩
 ·exact .inl ⟨fun i hi=>Classical.not_not.1 (h i hi),e⟩
theorem rp_j (l:List Tx) (hl:l.length≤1000):((∀i,i<l.length→POK l i)∧loopO (rpB l) (0:Int)=some (.inl ()))∨(¬(∀i,i<l.length→POK l i)∧loopO (rpB l) (0:Int)=some (.inr false)):=by
 refine loop_all0 (body:=rpB l) l.length (POK l) (fun i hi hb => ?_) (fun i hi hb => ?_) ?_
 ·obtain ⟨x,hx,hxb⟩:=get_at ([]:Tx) hi
  have hb:Ln (l.getD i []).length 1000:=hb
  rw [hx] at hb
  have hn:((i:Int)+1)=((i+1:Nat):Int):=rfl
  unfold rpB
  simp (disch:=(first | omega | (simp only [LNl];omega))) only [↓SDl,SDr,if_pos,if_neg,↓hxb,↓withinR_b,hb,and_self,decide_true,wrap_i64',hn]
 ·obtain ⟨x,hx,hxb⟩:=get_at ([]:Tx) hi
  have hb:¬Ln (l.getD i []).length 1000:=hb
  rw [hx] at hb
  unfold rpB
  simp (disch:=(first | omega | (simp only [LNl];omega))) only [↓SDl,SDr,if_pos,if_neg,↓hxb,↓withinR_b,hb,decide_false]
 ·unfold rpB
  simp (disch:=(first | omega | (simp only [LNl];omega))) only [↓SDl,SDr,if_neg]
abbrev F1 (a1 a2:Tx) (a3:Int):Prop:=Ln a1.length 255∧Ln a2.length 255∧NN a3
abbrev F3 (a4:Bool) (a5:List Ct) (a6:Int):Prop:=a4=true→a5.length=0∧a6=0
abbrev F5 (a5:List Ct) (a7:Tx) (a8:Int):Prop:=a8≠0→a7≠[]∧a5.length≤1
def FM (a1 a2:Tx) (a3:Int) (a4:Bool) (a5:List Ct) (a6:Int) (a7:Tx) (a8:Int) (a9:List Tx):Prop :=
 F1 a1 a2 a3∧(NO a6∧a5.length≤20∧a9.length≤10)∧F3 a4 a5 a6∧a7.length≤255∧NN a8∧F5 a5 a7 a8∧(∀i,i<a5.length→COK a5 i)∧(∀i,i<a9.length→POK a9 i)
theorem formedP_j (a1 a2:Tx) (a3:Int) (a4:Bool) (a5:List Ct) (a6:Int) (a7:Tx) (a8:Int) (a9:List Tx):Is (registrar_Formed (a1,(a2,(a3,(a4,(a5,(a6,(a7,(a8,a9))))))))) (FM a1 a2 a3 a4 a5 a6 a7 a8 a9):=by
 rw [formedP_eq]
 refine Is.and _ ?_
 by_cases h1:F1 a1 a2 a3
 ·refine .inl ⟨h1,(),by simp only [↓SDl,SDr,↓within_b,h1.1,h1.2.1,h1.2.2,and_self,decide_true],?_⟩
  refine Is.and _ ?_
  by_cases h2:NO a6∧a5.length≤20∧a9.length≤10
  ·refine .inl ⟨h2,(),by simp (disch:=(first | omega | (simp only [LNl];omega))) only [↓SDl,SDr,↓within_b,h2.1,and_self,decide_true,if_neg],?_⟩
   refine Is.and _ ?_
   by_cases h3:F3 a4 a5 a6
   ·refine .inl ⟨h3,(),?_,?_⟩
    ·cases a4 with
     | false=>rfl
     | true =>
       obtain ⟨k1,k2⟩:=h3 rfl
       simp (disch:=(first | omega | (simp only [LNl];omega))) only [↓SDl,SDr,if_neg,k1,k2,ne_eq,not_true,decide_false]
    ·by_cases h4:a7.length≤255
     ·by_cases h5:NN a8
      ·simp (disch:=(first | omega | (simp only [LNl];omega))) only [↓SDl,SDr,↓within_b,h5,and_self,decide_true,if_neg]
       have e:(a7.length≤255∧NN a8∧F5 a5 a7 a8∧(∀i,i<a5.length→COK a5 i)∧(∀i,i<a9.length→POK a9 i))=(F5 a5 a7 a8∧(∀i,i<a5.length→COK a5 i)∧(∀i,i<a9.length→POK a9 i)):=propext ⟨fun h=>h.2.2,fun h=>⟨h4,h5,h⟩⟩
       rw [e]
       refine Is.and _ ?_
       by_cases h6:F5 a5 a7 a8
       ·refine .inl ⟨h6,(),?_,?_⟩
        ·by_cases k:a8=0
         ·simp only [↓SDl,SDr,k,ne_eq,not_true,decide_false]
         ·obtain ⟨k1,k2⟩:=h6 k
          simp (disch:=(first | omega | (simp only [LNl];omega))) only [↓SDl,SDr,k,k1,ne_eq,not_false_iff,decide_true,decide_false,if_neg,if_true,if_false]
        ·refine Is.and _ ?_
         rcases fc_j a5 (by omega) with ⟨h7,e7⟩ | ⟨h7,e7⟩
         ·refine .inl ⟨h7,(),e7,?_⟩
          rcases fp_j (γ:=Bool) a9 (by omega) with ⟨h8,e8⟩ | ⟨h8,k,e8⟩
          ·rw [e8];exact Is.t h8
          ·rw [e8]
           have k0:(k:Int)≥0:=by omega
           simp only [↓SDl,SDr,k0,decide_true]
           exact Is.f h8
         ·exact .inr ⟨h7,e7⟩
       ·refine .inr ⟨h6,?_⟩
        have k:a8≠0:=fun k=>h6 fun g=>(g k).elim
        by_cases k1:a7=[]
        ·simp only [↓SDl,SDr,k,k1,ne_eq,not_false_iff,decide_true]
        ·have k2:¬a5.length≤1:=fun k2=>h6 fun _=>⟨k1,k2⟩
         simp (disch:=(first | omega | (simp only [LNl];omega))) only [↓SDl,SDr,k,k1,ne_eq,not_false_iff,decide_true,decide_false,if_pos,if_true,if_false]
      ·simp (disch:=(first | omega | (simp only [LNl];omega))) only [↓SDl,SDr,↓within_b,h5,decide_false,if_neg]
       exact Is.f fun k=>absurd k.2.1 (by simp [h5])
     ·simp (disch:=(first | omega | (simp only [LNl];omega))) only [↓SDl,SDr,if_pos]
      exact Is.f fun k=>h4 k.1
   ·refine .inr ⟨h3,?_⟩
    cases a4 with
    | false=>exact (h3 fun g=>by cases g).elim
    | true =>
      by_cases k1:a5.length=0
      ·have k2:a6≠0:=fun k2=>h3 fun _=>⟨k1,k2⟩
       simp (disch:=(first | omega | (simp only [LNl];omega))) only [↓SDl,SDr,if_neg,if_pos,k1,k2,ne_eq,not_false_iff,decide_true,if_true]
      ·simp (disch:=(first | omega | (simp only [LNl];omega))) only [↓SDl,SDr,if_pos]
  ·refine .inr ⟨h2,?_⟩
   by_cases k1:NO a6
   ·by_cases k2:a5.length≤20
    ·have k3:¬a9.length≤10:=fun k=>h2 ⟨k1,k2,k⟩
     simp (disch:=(first | omega | (simp only [LNl];omega))) only [↓SDl,SDr,↓within_b,k1,and_self,decide_true,if_neg,if_pos]
    ·simp (disch:=(first | omega | (simp only [LNl];omega))) only [↓SDl,SDr,↓within_b,k1,and_self,decide_true,if_pos]
   ·simp (disch:=(first | omega | (simp only [LNl];omega))) only [↓SDl,SDr,↓within_b,k1,decide_false]
 ·refine .inr ⟨h1,?_⟩
  by_cases k1:Ln a1.length 255
  ·by_cases k2:Ln a2.length 255
   ·have k3:¬NN a3:=fun k=>h1 ⟨k1,k2,k⟩
    simp only [↓SDl,SDr,↓within_b,k1,k2,k3,and_self,decide_true,decide_false]
   ·simp only [↓SDl,SDr,↓within_b,k1,k2,and_self,decide_true,decide_false]
  ·simp only [↓SDl,SDr,↓within_b,k1,decide_false]
theorem contacts_j (a1 a2:Tx) (a3:Int) (a4:Bool) (a5:List Ct) (a6:Int) (a7:Tx) (a8:Int) (a9:List Tx):Is (dialtoneref22_contacts (a1,(a2,(a3,(a4,(a5,(a6,(a7,(a8,a9))))))))) ((a5.length≤20∧F3 a4 a5 a6)∧(∀i,i<a5.length→COK a5 i)):=by
 rw [contacts_eq]
 refine Is.and _ ?_
 by_cases h2:a5.length≤20
 ·by_cases h3:F3 a4 a5 a6
  ·refine .inl ⟨⟨h2,h3⟩,(),?_,?_⟩
   ·cases a4 with
    | false=>simp (disch:=(first | omega | (simp only [LNl];omega))) only [↓SDl,SDr,if_neg]
    | true =>
      obtain ⟨k1,k2⟩:=h3 rfl
      simp (disch:=(first | omega | (simp only [LNl];omega))) only [↓SDl,SDr,if_neg,k1,k2,ne_eq,not_true,decide_false]
   ·rcases rc_j a5 (by omega) with ⟨h7,e7⟩ | ⟨h7,e7⟩
    ·rw [e7];exact Is.t h7
    ·rw [e7];exact Is.f h7
  ·refine .inr ⟨fun k=>h3 k.2,?_⟩
   cases a4 with
   | false=>exact (h3 fun g=>by cases g).elim
   | true =>
     by_cases k1:a5.length=0
     ·have k2:a6≠0:=fun k2=>h3 fun _=>⟨k1,k2⟩
      simp (disch:=(first | omega | (simp only [LNl];omega))) only [↓SDl,SDr,if_neg,if_pos,k1,k2,ne_eq,not_true,not_false_iff,decide_true,decide_false,if_true,if_false]
     ·simp (disch:=(first | omega | (simp only [LNl];omega))) only [↓SDl,SDr,if_neg,if_pos,ne_eq]
 ·exact .inr ⟨fun k=>h2 k.1,by simp (disch:=(first | omega | (simp only [LNl];omega))) only [↓SDl,SDr,if_pos]⟩
theorem formedR_j (a1 a2:Tx) (a3:Int) (a4:Bool) (a5:List Ct) (a6:Int) (a7:Tx) (a8:Int) (a9:List Tx):Is (dialtoneref22_Formed (a1,(a2,(a3,(a4,(a5,(a6,(a7,(a8,a9))))))))) ((F1 a1 a2 a3∧NO a6)∧(((a5.length≤20∧F3 a4 a5 a6)∧(∀i,i<a5.length→COK a5 i))∧a7.length≤255∧NN a8)∧(F5 a5 a7 a8∧a9.length≤10)∧(∀i,i<a9.length→POK a9 i)):=by
 rw [formedR_eq]
 refine Is.and _ ?_
 by_cases h1:F1 a1 a2 a3
 ·by_cases h2:NO a6
  ·refine .inl ⟨⟨h1,h2⟩,(),by simp only [↓SDl,SDr,↓withinR_b,h1.1,h1.2.1,h1.2.2,h2,and_self,decide_true],?_⟩
   refine Is.and _ ?_
   rcases contacts_j a1 a2 a3 a4 a5 a6 a7 a8 a9 with ⟨hc,ec⟩ | ⟨hc,ec⟩
   ·by_cases h4:a7.length≤255
    ·by_cases h5:NN a8
     ·refine .inl ⟨⟨hc,h4,h5⟩,(),by simp (disch:=(first | omega | (simp only [LNl];omega))) only [↓SDl,SDr,ec,↓withinR_b,h5,and_self,decide_true,if_neg],?_⟩
      refine Is.and _ ?_
      by_cases h6:F5 a5 a7 a8
      ·by_cases h9:a9.length≤10
       ·refine .inl ⟨⟨h6,h9⟩,(),?_,?_⟩
        ·by_cases k:a8=0
         ·simp (disch:=(first | omega | (simp only [LNl];omega))) only [↓SDl,SDr,k,ne_eq,not_true,decide_false,if_neg]
         ·obtain ⟨k1,k2⟩:=h6 k
          have k1:¬((a7.length:Nat):Int)=0:=fun g=>k1 (List.length_eq_zero_iff.1 (by omega))
          simp (disch:=(first | omega | (simp only [LNl];omega))) only [↓SDl,SDr,k,k1,ne_eq,not_false_iff,decide_true,decide_false,if_neg,if_true,if_false]
        ·rcases rp_j a9 (by omega) with ⟨h8,e8⟩ | ⟨h8,e8⟩
         ·rw [e8];exact Is.t h8
         ·rw [e8];exact Is.f h8
       ·refine .inr ⟨fun k=>h9 k.2,?_⟩
        by_cases k:a8=0
        ·simp (disch:=(first | omega | (simp only [LNl];omega))) only [↓SDl,SDr,k,ne_eq,not_true,decide_false,if_pos]
        ·obtain ⟨k1,k2⟩:=h6 k
         have k1:¬((a7.length:Nat):Int)=0:=fun g=>k1 (List.length_eq_zero_iff.1 (by omega))
         simp (disch:=(first | omega | (simp only [LNl];omega))) only [↓SDl,SDr,k,k1,ne_eq,not_false_iff,decide_true,decide_false,if_neg,if_pos,if_true,if_false]
      ·refine .inr ⟨fun k=>h6 k.1,?_⟩
       have k:a8≠0:=fun k=>h6 fun g=>(g k).elim
       by_cases k1:a7=[]
       ·have k1:((a7.length:Nat):Int)=0:=by rw [k1];rfl
        simp only [↓SDl,SDr,k,k1,ne_eq,not_false_iff,decide_true]
       ·have k2:¬a5.length≤1:=fun k2=>h6 fun _=>⟨k1,k2⟩
        have k1:¬((a7.length:Nat):Int)=0:=fun g=>k1 (List.length_eq_zero_iff.1 (by omega))
        simp (disch:=(first | omega | (simp only [LNl];omega))) only [↓SDl,SDr,k,k1,ne_eq,not_false_iff,decide_true,decide_false,if_pos,if_true,if_false]
     ·exact .inr ⟨fun k=>h5 k.2.2,by simp (disch:=(first | omega | (simp only [LNl];omega))) only [↓SDl,SDr,ec,↓withinR_b,h5,decide_false,if_neg]⟩
    ·exact .inr ⟨fun k=>h4 k.2.1,by simp (disch:=(first | omega | (simp only [LNl];omega))) only [↓SDl,SDr,ec,if_pos]⟩
   ·exact .inr ⟨fun k=>hc k.1,by simp only [↓SDl,SDr,ec]⟩
  ·exact .inr ⟨fun k=>h2 k.2,by simp only [↓SDl,SDr,↓withinR_b,h1.1,h1.2.1,h1.2.2,h2,and_self,decide_true,decide_false]⟩
 ·refine .inr ⟨fun k=>h1 k.1,?_⟩
  by_cases k1:Ln a1.length 255
  ·by_cases k2:Ln a2.length 255
   ·have k3:¬NN a3:=fun k=>h1 ⟨k1,k2,k⟩
    simp only [↓SDl,SDr,↓withinR_b,k1,k2,k3,and_self,decide_true,decide_false]
   ·simp only [↓SDl,SDr,↓withinR_b,k1,k2,and_self,decide_true,decide_false]
  ·simp only [↓SDl,SDr,↓withinR_b,k1,decide_false]
theorem valid_same (a b c d:Int):∃v,registrar_Valid (a,(b,(c,d)))=some v∧dialtoneref22_Valid (a,(b,(c,d)))=some v:=by
 unfold registrar_Valid dialtoneref22_Valid
 by_cases h1:1≤a
 ·by_cases h2:a≤b
  ·by_cases h3:b≤c
   ·by_cases h4:c≤10000000
    ·by_cases h5:1≤d
     ·refine ⟨decide (d≤100),?_,?_⟩
      ·simp (disch:=omega) only [↓SDl,SDr,if_pos]
      ·simp (disch:=omega) only [↓SDl,SDr,if_pos,withinR_b,h5,true_and]
     ·refine ⟨false,?_,?_⟩
      ·simp (disch:=omega) only [↓SDl,SDr,if_pos,if_neg]
      ·simp (disch:=omega) only [↓SDl,SDr,if_pos,withinR_b,h5,false_and,decide_false]
    ·refine ⟨false,?_,?_⟩<;>simp (disch:=omega) only [↓SDl,SDr,if_pos,if_neg]
   ·refine ⟨false,?_,?_⟩<;>simp (disch:=omega) only [↓SDl,SDr,if_pos,if_neg]
  ·refine ⟨false,?_,?_⟩<;>simp (disch:=omega) only [↓SDl,SDr,if_pos,if_neg]
 ·refine ⟨false,?_,?_⟩<;>simp (disch:=omega) only [↓SDl,SDr,if_neg]
abbrev Sml (a1 a2:Tx) (a5:List Ct) (a7:Tx) (a9:List Tx):Prop:=a5.length≤30∧a9.length≤30∧a1.length≤2000∧a2.length≤2000∧a7.length≤2000
theorem few_j (a1 a2:Tx) (a3:Int) (a4:Bool) (a5:List Ct) (a6:Int) (a7:Tx) (a8:Int) (a9:List Tx):Is (dialtonelaw22_few (a1,(a2,(a3,(a4,(a5,(a6,(a7,(a8,a9))))))))) (Sml a1 a2 a5 a7 a9∧(∀i,i<a5.length→(a5.getD i c0).1.length≤2000)∧(∀i,i<a9.length→(a9.getD i []).length≤2000)):=by
 rw [few_eq]
 refine Is.and _ ?_
 by_cases h:Sml a1 a2 a5 a7 a9
 ·obtain ⟨h1,h2,h3,h4,h5⟩:=h
  refine .inl ⟨⟨h1,h2,h3,h4,h5⟩,(),by simp (disch:=(first | omega | (simp only [LNl];omega))) only [↓SDl,SDr,if_neg],?_⟩
  refine Is.and _ ?_
  rcases loop_all0 (body:=fwB a5) a5.length (fun i=>(a5.getD i c0).1.length≤2000)
   (fun i hi hb=>by
     obtain ⟨x,hx,hxb⟩:=get_at c0 hi
     rw [hx] at hb
     have hn:((i:Int)+1)=((i+1:Nat):Int):=rfl
     unfold fwB
     simp (disch:=(first | omega | (simp only [LNl];omega))) only [↓SDl,SDr,if_pos,if_neg,↓hxb,wrap_i64',hn])
   (fun i hi hb=>by
     obtain ⟨x,hx,hxb⟩:=get_at c0 hi
     rw [hx] at hb
     unfold fwB
     simp (disch:=(first | omega | (simp only [LNl];omega))) only [↓SDl,SDr,if_pos,↓hxb])
   (by unfold fwB;simp (disch:=(first | omega | (simp only [LNl];omega))) only [↓SDl,SDr,if_neg]) with ⟨h6,e⟩ | ⟨h6,e⟩
  ·refine .inl ⟨h6,(),e,?_⟩
   rcases loop_all0 (body:=fwB2 a9) a9.length (fun i=>(a9.getD i []).length≤2000)
    (fun i hi hb=>by
      obtain ⟨x,hx,hxb⟩:=get_at ([]:Tx) hi
      rw [hx] at hb
      have hn:((i:Int)+1)=((i+1:Nat):Int):=rfl
      unfold fwB2
      simp (disch:=(first | omega | (simp only [LNl];omega))) only [↓SDl,SDr,if_pos,if_neg,↓hxb,wrap_i64',hn])
    (fun i hi hb=>by
      obtain ⟨x,hx,hxb⟩:=get_at ([]:Tx) hi
      rw [hx] at hb
      unfold fwB2
      simp (disch:=(first | omega | (simp only [LNl];omega))) only [↓SDl,SDr,if_pos,↓hxb])
    (by unfold fwB2;simp (disch:=(first | omega | (simp only [LNl];omega))) only [↓SDl,SDr,if_neg]) with ⟨h7,e⟩ | ⟨h7,e⟩
   ·rw [e];exact Is.t h7
   ·rw [e];exact Is.f h7
  ·exact .inr ⟨h6,e⟩
 ·refine .inr ⟨h,?_⟩
  by_cases k1:a5.length≤30
  ·by_cases k2:a9.length≤30
   ·by_cases k3:a1.length≤2000
    ·by_cases k4:a2.length≤2000
     ·have k5:¬a7.length≤2000:=fun k=>h ⟨k1,k2,k3,k4,k⟩
      simp (disch:=(first | omega | (simp only [LNl];omega))) only [↓SDl,SDr,if_pos,if_neg]
     ·simp (disch:=(first | omega | (simp only [LNl];omega))) only [↓SDl,SDr,if_pos,if_neg]
    ·simp (disch:=(first | omega | (simp only [LNl];omega))) only [↓SDl,SDr,if_pos,if_neg]
   ·simp (disch:=(first | omega | (simp only [LNl];omega))) only [↓SDl,SDr,if_pos,if_neg]
  ·simp (disch:=(first | omega | (simp only [LNl];omega))) only [↓SDl,SDr,if_pos]
end Go.Proofs.Ytlaccfegaoaakaa

set_option maxRecDepth 100000
namespace Go.Proofs.Ytlaccfegaoaakaa
open Go.RowKit
def be (u:Int):Nat→List Int
 | 0=>[]
 | k+1=>be (u / 256) k++[u % 256]
def val (l:List Int):Int:=l.foldl (fun a x=>a*256+x) 0
abbrev By (l:List Int):Prop:=∀x∈l,0≤x∧x≤255
theorem val_snoc (l:List Int) (x:Int):val (l++[x])=val l*256+x:=by unfold val;rw [List.foldl_append];rfl
theorem be_len (u:Int) (k:Nat):(be u k).length=k:=by
 induction k generalizing u with
 | zero=>rfl
 | succ k ih=>rw [be,List.length_append,ih];rfl
theorem be_by (u:Int) (k:Nat):By (be u k):=by
 induction k generalizing u with
 | zero=>intro x hx;cases hx
 | succ k ih =>
   intro x hx
   rw [be] at hx
   rcases List.mem_append.1 hx with hx | hx
   ·exact ih _ x hx
   ·rw [List.mem_singleton] at hx;omega
theorem be_front (u:Int) (k:Nat):be u (k+1)=(u / 256 ^ k) % 256::be u k:=by
 induction k generalizing u with
 | zero=>simp [be]
 | succ k ih =>
   rw [be,ih,List.cons_append,Int.pow_succ,Int.mul_comm,←Int.ediv_ediv_of_nonneg (by decide)]
   rfl
theorem be_get (u:Int) (k n:Nat) (h:n<k):(be u k).getD n 0=(u / 256 ^ (k-1-n)) % 256:=by
 induction k generalizing n with
 | zero=>omega
 | succ k ih =>
   rw [be_front]
   cases n with
   | zero=>simp
   | succ n =>
     rw [List.getD_cons_succ,ih n (by omega)]
     congr 3
     omega
theorem val_be (u:Int) (k:Nat) (h:0≤u∧u<256 ^ k):val (be u k)=u:=by
 induction k generalizing u with
 | zero =>
   have:u=0:=by have:=h.2;simp at this;omega
   rw [this];rfl
 | succ k ih =>
   have h2:=h.2
   rw [Int.pow_succ] at h2
   rw [be,val_snoc,ih (u / 256) ⟨by omega,by omega⟩]
   omega
theorem val_rng {l:List Int} (h:By l):0≤val l∧val l<256 ^ l.length:=by
 induction hn:l.length generalizing l with
 | zero =>
   rw [List.length_eq_zero_iff.1 hn]
   exact ⟨Int.le_refl 0,by decide⟩
 | succ n ih =>
   rcases List.eq_nil_or_concat l with e | ⟨l',c,e⟩
   ·rw [e] at hn;cases hn
   ·rw [List.concat_eq_append] at e
    subst e
    have hl:l'.length=n:=by simpa using hn
    have:=ih (l:=l') (fun x hx=>h x (List.mem_append_left _ hx)) hl
    have hc:=h c (by simp)
    rw [val_snoc,Int.pow_succ]
    omega
theorem be_val {l:List Int} (h:By l):be (val l) l.length=l:=by
 induction hn:l.length generalizing l with
 | zero=>rw [List.length_eq_zero_iff.1 hn];rfl
 | succ n ih =>
   rcases List.eq_nil_or_concat l with e | ⟨l',c,e⟩
   ·rw [e] at hn;cases hn
   ·rw [List.concat_eq_append] at e
    subst e
    have hl:l'.length=n:=by simpa using hn
    have hi:=ih (l:=l') (fun x hx=>h x (List.mem_append_left _ hx)) hl
    have hc:=h c (by simp)
    rw [val_snoc,be,show (val l'*256+c) / 256=val l' by omega,show (val l'*256+c) % 256=c by omega,hi]
def tb (s:Tx):List Int:=s.map fun c=>((c.toNat:Nat):Int)
theorem tb_len (s:Tx):(tb s).length=s.length:=List.length_map _
theorem tb_by (s:Tx):By (tb s):=fun x hx=>by
 obtain ⟨c,_,rfl⟩:=List.mem_map.1 hx
 have:=c.toNat_lt
 omega
def bt (l:List Int):Tx:=l.map fun n=>UInt8.ofNat n.toNat
theorem bt_tb (s:Tx):bt (tb s)=s:=by
 unfold bt tb
 rw [List.map_map]
 conv=>rhs;rw [←List.map_id s]
 apply List.map_congr_left
 intro c _
 show UInt8.ofNat (Int.toNat ((c.toNat:Nat):Int))=c
 rw [Int.toNat_natCast]
 exact UInt8.ofNat_toNat
def et (s:Tx):List Int:=be (s.length:Int) 2++tb s
def u4 (n:Int):Int:=if n<0 then n+4294967296 else n
def ec (x:Ct):List Int:=et x.1++be x.2.1 2++be (u4 x.2.2) 4
def ENC (now:Int) (a1 a2:Tx) (a3:Int) (a4:Bool) (a5:List Ct) (a6:Int) (a7:Tx) (a8:Int) (a9:List Tx):List Int :=
 be now 8++et a1++et a2++be a3 4++[if a4=true then 1 else 0]++be (u4 a6) 4++et a7++be a8 4++[(a5.length:Int)]++a5.flatMap ec++[(a9.length:Int)]++a9.flatMap et
end Go.Proofs.Ytlaccfegaoaakaa

set_option maxRecDepth 100000
namespace Go.Proofs.Ytlaccfegaoaakaa
open Go.RowKit
noncomputable def nmB {γ:Type} (u:Int):(Int×List Int)→Option ((Int×List Int) ⊕ (List Int ⊕ γ)) :=
(fun (v12,v13) =>
 bif (decide (v12≥(0:Int))) then
 bindO (some (Go.IntKind.wrap .i64 ((8:Int)*v12))) fun x15 =>
 bif (decide ((0:Int)≤x15)) then
 bindO (some (Int.fdiv u ((2:Int) ^ (Min.min (Int.toNat x15) 64)))) fun x16 =>
 bif (decide ((List.length v13)≤(List.length v13))) then
 bif (decide (((List.length ((List.take (List.length v13) v13)++((Go.IntKind.wrap .u8 x16)::([]:List Int))))*1)≤140737488355328)) then
 bindO (some ((List.take (List.length v13) v13)++((Go.IntKind.wrap .u8 x16)::([]:List Int)))) fun x18 =>
 bif (decide ((List.length x18)≤(List.length x18))) then
 some (Sum.inl ((Go.IntKind.wrap .i64 (v12-(1:Int))),(List.take (List.length x18) x18)))
 else none
 else none
 else none
 else none
 else
 outO (bif (decide ((List.length v13)≤(List.length v13))) then
 some (Sum.inl (List.take (List.length v13) v13))
 else none))
theorem pow_256 (m:Nat):(2:Int) ^ (8*m)=256 ^ m:=by rw [Int.pow_mul];rfl
theorem take_getI {A:List Int} {n:Nat} (h:n<A.length):A.take (n+1)=A.take n++[A.getD n 0]:=by
 rw [List.take_add_one,List.getElem?_eq_getElem h,List.getD_eq_getElem?_getD,List.getElem?_eq_getElem h];rfl
theorem nm_j {γ:Type} {u:Int} {k:Nat} {v:Int} (b:List Int) (hu:0≤u) (hv:v=(k:Int)-1) (hk:k≤8) (hb:b.length≤1000000):loopO (nmB (γ:=γ) u) (v,b)=some (.inl (b++be u k)):=by
 subst hv
 have hl:=be_len u k
 refine loopO_from (fun n=>(((k:Int)-1-(n:Int)),b++(be u k).take n)) k (by simp) (fun n hn => ?_) ?_
 ·obtain ⟨m,hm⟩:∃m:Nat,k-1-n=m:=⟨_,rfl⟩
  have e1:(k:Int)-1-(n:Int)=(m:Int):=by omega
  have e2:(k:Int)-1-((n+1:Nat):Int)=(m:Int)-1:=by omega
  have hx:IntKind.wrap .u8 (Int.fdiv u ((2:Int) ^ (Min.min (Int.toNat (8*(m:Int))) 64)))=(be u k).getD n 0:=by
   rw [be_get u k n hn,hm,wr_u8]
   have:Min.min (Int.toNat (8*(m:Int))) 64=8*m:=by omega
   have hp:(0:Int)<256 ^ m:=Int.pow_pos (by decide)
   rw [this,pow_256,Int.fdiv_eq_ediv_of_nonneg _ (by omega)]
  have hx8:IntKind.wrap .i64 (8*(m:Int))=8*(m:Int):=wrap_i64' (by omega)
  have hw:IntKind.wrap .i64 ((m:Int)-1)=(m:Int)-1:=wrap_i64' (by omega)
  have ht:((be u k).take n).length≤8:=by rw [List.length_take];omega
  simp only [e1,e2,take_getI (show n<(be u k).length by omega)]
  generalize (be u k).take n=A at *
  have hB:(b.length+(A.length+1))*1≤140737488355328:=by omega
  unfold nmB
  simp (disch:=(first | omega | (simp only [LNl];omega))) only [↓SDl,SDr,if_pos,hx8,hx,hw,List.append_assoc]
 ·have hT:(be u k).take k=be u k:=List.take_of_length_le (by omega)
  simp only [hT]
  unfold nmB
  have:¬((k:Int)-1-(k:Int)≥0):=by omega
  simp (disch:=(first | omega | (simp only [LNl];omega))) only [↓SDl,SDr,if_neg]
end Go.Proofs.Ytlaccfegaoaakaa

set_option maxRecDepth 1000000
set_option maxHeartbeats 0
namespace Go.Proofs.Ytlaccfegaoaakaa
open Go.RowKit
def plan22:List (Nat×PL):=[(262657,(.carry [])),(9241421688590303250,(.carry [.mix 3 [(.own 10000002 5 uI8)]])),(5857446875251837918749797529164281065012793182214,(.carry [.tmp 5 false [dI],.mix 3 [(.own 10000036 5 uI8)],.dead 10000035])),(43641380036263450374825280377002664395265,(.carry [.mix 3 [(.own 10000050 5 uI8)],.dead 10000037])),(1240362622532514025046280198,(.carry [.tmp 5 false [dI],.mix 3 [(.own 10000018 5 uI8)]])),(1240362622532514091354554387,(.carry [.mix 3 [(.own 10000020 5 uI8)],.dead 10000002])),(166478653092435647469592732275836934,(.carry [.tmp 5 false [dI],.mix 3 [(.own 10000019 5 uI8)],.dead 10000002])),(635065662736647214839706157075,(.carry [.mix 3 [(.own 10000022 5 uI8)],.dead 22])),(85237070383327051513313244590217889798,(.carry [.tmp 5 false [dI],.mix 3 [(.own 10000021 5 uI8)],.dead 22])),(1240362622532514091484053523,(.carry [.mix 3 [(.own 10000024 5 uI8)],.dead 34])),(166478653092435647486973812087719942,(.carry [.tmp 5 false [dI],.mix 3 [(.own 10000023 5 uI8)],.dead 34])),(1240362622532514091484054017,(.carry [.mix 3 [(.own 10000029 5 uI8)],.dead 10000024])),(166478653092435647486973878257058833,(.carry [.mix 3 [(.own 10000027 5 uI8)],.dead 10000024])),(166478653092435647486973878257059345,(.carry [.mix 3 [(.own 10000028 5 uI8)],.dead 10000024])),(22344386578566886591910543535011036527855622,(.carry [.tmp 5 false [dI],.mix 3 [(.own 10000025 5 uI8)],.dead 10000024])),(22344386578566886591910543535011105247332358,(.carry [.tmp 5 false [dI],.mix 3 [(.own 10000026 5 uI8)],.dead 10000024])),(325153619321163373997995856232467,(.carry [.mix 3 [(.own 10000031 5 uI8)],.dead 10000029])),(43641380036263450374825280376936360839174,(.carry [.tmp 5 false [dI],.mix 3 [(.own 10000030 5 uI8)],.dead 10000029])),(43641380036263450374825280377002534895635,(.carry [.mix 3 [(.own 10000033 5 uI8)],.dead 10000031])),(5857446875251837918749797529164263683932847081478,(.carry [.tmp 5 false [dI],.mix 3 [(.own 10000032 5 uI8)],.dead 10000031])),(85237070383327051513330625736333328403,(.carry [.mix 3 [(.own 10000035 5 uI8)],.dead 54])),(11440325928226245935058198299148986388928792582,(.carry [.tmp 5 false [dI],.mix 3 [(.own 10000034 5 uI8)],.dead 54])),(43641380036263450374825280377002664394772,(.carry [.mix 3 [(.own 10000037 5 uI8)],.dead 10000035])),(5857446875251837918749797529164281065078828304390,(.carry [.tmp 67 false [dI],.mix 3 [(.own 10000042 5 uI8)],.dead 10000037])),(14162437529025953452002322041180027868550309617466840484466301573794627603,(.carry [.mix 3 [(.own 10000039 5 uI8)],.dead 10000042])),(1900850188087797525361508715091505779493505210552948445163486289797539255481010182,(.carry [.tmp 5 false [dI],.mix 3 [(.own 10000038 5 uI8)],.dead 10000042])),(27661010798878815335942035236679741930762323471614922821223245261570067,(.carry [.mix 3 [(.own 10000041 5 uI8)],.dead 84])),(3712598023608979541721696709163097225573252364361227431959934159794700105811974,(.carry [.tmp 5 false [dI],.mix 3 [(.own 10000040 5 uI8)],.dead 84])),(27661010798878815335942035236679741930762323471614922821223245261570579,(.carry [.mix 3 [(.own 10000048 5 uI8)],.dead 10000041])),(3712598023608979541721696709163097225573252364361227431959934159794768825288710,(.carry [.tmp 5 false [dI],.mix 3 [(.own 10000046 5 uI8)],.dead 10000041])),(11440325928226245935058198299148986455232348180,(.carry [.mix 3 [(.own 10000052 5 uI8)],.dead 10000050])),(1535494553666017799372746923485241295524059484824799238,(.carry [.tmp 5 false [dI],.mix 3 [(.own 10000051 5 uI8)],.dead 10000050])),(11440325928226245935058198299148986455232348673,(.carry [.mix 3 [(.own 10000059 5 uI8)],.dead 10000052])),(1535494553666017799372746923485241295524059550859921414,(.carry [.tmp 92 false [dI],.mix 3 [(.own 10000053 5 uI8)],.dead 10000052])),(7251168014861288167425188885084174268697924675101011819053893073350177587219,(.carry [.mix 3 [(.own 10000057 5 uI8)],.dead 10000053])),(973235296300952332985092462126850959100696968207195976854560637859998184153056282630,(.carry [.tmp 5 false [dI],.mix 3 [(.own 10000055 5 uI8)],.dead 10000053]))]
noncomputable def registrar_EncodeAct:(Int×(LU×(LU×(Int×(Bool×((List (LU×(Int×Int)))×(Int×(LU×(Int×(List LU))))))))))→Option (LN×Int):=fun (a1,(a2,(a3,(a4,(a5,(a6,(a7,(a8,(a9,a10))))))))) =>
 joinO (bindO (registrar_Formed (a2,(a3,(a4,(a5,(a6,(a7,(a8,(a9,a10))))))))) fun x11 =>
 bif (!x11) then
 outO (some (([]:List Int),(2:Int)))
 else
 bif (decide (a1<z0)) then
 outO (some (([]:List Int),(2:Int)))
 else
 bif (decide (a1 > (1099511627776:Int))) then
 outO (some (([]:List Int),(2:Int)))
 else
 some (Sum.inl ())) fun _ =>
 joinO (loopO (fun (v12,v13) =>
 bif (decide (v12≥z0)) then
 bindO (some (wI ((8:Int)*v12))) fun x15 =>
 bif (decide (z0≤x15)) then
 bindO (some (Int.fdiv (Go.IntKind.wrap .u64 a1) ((2:Int) ^ (Min.min (Int.toNat x15) 64)))) fun x16 =>
 bif (lE v13) then
 bif (rO ((tA v13)++((Go.IntKind.wrap .u8 x16)::([]:List Int))) 1) then
 bindO (some ((tA v13)++((Go.IntKind.wrap .u8 x16)::([]:List Int)))) fun x18 =>
 bif (lE x18) then
 some (Sum.inl ((wI (v12-z1)),(tA x18)))
 else none
 else none
 else none
 else none
 else
 outO (bif (lE v13) then
 some (Sum.inl (tA v13))
 else none)) ((7:Int),([]:List Int))) fun v20 =>
 joinO (bif (lE v20) then
 loopO (fun (v21,v22) =>
 bif (decide (v21≥z0)) then
 bindO (some (wI ((8:Int)*v21))) fun x24 =>
 bif (decide (z0≤x24)) then
 bindO (some (Int.fdiv (Go.IntKind.wrap .u64 (lI a2)) ((2:Int) ^ (Min.min (Int.toNat x24) 64)))) fun x25 =>
 bif (lE v22) then
 bif (rO ((tA v22)++((Go.IntKind.wrap .u8 x25)::([]:List Int))) 1) then
 bindO (some ((tA v22)++((Go.IntKind.wrap .u8 x25)::([]:List Int)))) fun x27 =>
 bif (lE x27) then
 some (Sum.inl ((wI (v21-z1)),(tA x27)))
 else none
 else none
 else none
 else none
 else
 outO (bif (lE v22) then
 some (Sum.inl (tA v22))
 else none)) (z1,(tA v20))
 else none) fun v29 =>
 bif (lE v29) then
 bif (rO ((tA v29)++(List.map (fun (x30:UInt8)=>(((UInt8.toNat x30):Nat):Int)) a2)) 1) then
 bindO (some ((tA v29)++(List.map (fun (x32:UInt8)=>(((UInt8.toNat x32):Nat):Int)) a2))) fun x31 =>
 joinO (bif (lE x31) then
 loopO (fun (v33,v34) =>
 bif (decide (v33≥z0)) then
 bindO (some (wI ((8:Int)*v33))) fun x36 =>
 bif (decide (z0≤x36)) then
 bindO (some (Int.fdiv (Go.IntKind.wrap .u64 (lI a3)) ((2:Int) ^ (Min.min (Int.toNat x36) 64)))) fun x37 =>
 bif (lE v34) then
 bif (rO ((tA v34)++((Go.IntKind.wrap .u8 x37)::([]:List Int))) 1) then
 bindO (some ((tA v34)++((Go.IntKind.wrap .u8 x37)::([]:List Int)))) fun x39 =>
 bif (lE x39) then
 some (Sum.inl ((wI (v33-z1)),(tA x39)))
 else none
 else none
 else none
 else none
 else
 outO (bif (lE v34) then
 some (Sum.inl (tA v34))
 else none)) (z1,(tA x31))
 else none) fun v41 =>
 bif (lE v41) then
 bif (rO ((tA v41)++(List.map (fun (x42:UInt8)=>(((UInt8.toNat x42):Nat):Int)) a3)) 1) then
 bindO (some ((tA v41)++(List.map (fun (x44:UInt8)=>(((UInt8.toNat x44):Nat):Int)) a3))) fun x43 =>
 joinO (bif (lE x43) then
 loopO (fun (v45,v46) =>
 bif (decide (v45≥z0)) then
 bindO (some (wI ((8:Int)*v45))) fun x48 =>
 bif (decide (z0≤x48)) then
 bindO (some (Int.fdiv (Go.IntKind.wrap .u64 a4) ((2:Int) ^ (Min.min (Int.toNat x48) 64)))) fun x49 =>
 bif (lE v46) then
 bif (rO ((tA v46)++((Go.IntKind.wrap .u8 x49)::([]:List Int))) 1) then
 bindO (some ((tA v46)++((Go.IntKind.wrap .u8 x49)::([]:List Int)))) fun x51 =>
 bif (lE x51) then
 some (Sum.inl ((wI (v45-z1)),(tA x51)))
 else none
 else none
 else none
 else none
 else
 outO (bif (lE v46) then
 some (Sum.inl (tA v46))
 else none)) ((3:Int),(tA x43))
 else none) fun v53 =>
 joinO (bif a5 then
 joinO (bif (lE v53) then
 loopO (fun (v54,v55) =>
 bif (decide (v54≥z0)) then
 bindO (some (wI ((8:Int)*v54))) fun x56 =>
 bif (decide (z0≤x56)) then
 bindO (some (Int.fdiv z1 ((2:Int) ^ (Min.min (Int.toNat x56) 64)))) fun x57 =>
 bif (lE v55) then
 bif (rO ((tA v55)++((Go.IntKind.wrap .u8 x57)::([]:List Int))) 1) then
 bindO (some ((tA v55)++((Go.IntKind.wrap .u8 x57)::([]:List Int)))) fun x59 =>
 bif (lE x59) then
 some (Sum.inl ((wI (v54-z1)),(tA x59)))
 else none
 else none
 else none
 else none
 else
 outO (bif (lE v55) then
 some (Sum.inl (tA v55))
 else none)) (z0,(tA v53))
 else none) fun v61 =>
 bif (lE v61) then
 some (Sum.inl (tA v61))
 else none
 else
 joinO (bif (lE v53) then
 loopO (fun (v62,v63) =>
 bif (decide (v62≥z0)) then
 bindO (some (wI ((8:Int)*v62))) fun x64 =>
 bif (decide (z0≤x64)) then
 bindO (some (Int.fdiv z0 ((2:Int) ^ (Min.min (Int.toNat x64) 64)))) fun x65 =>
 bif (lE v63) then
 bif (rO ((tA v63)++((Go.IntKind.wrap .u8 x65)::([]:List Int))) 1) then
 bindO (some ((tA v63)++((Go.IntKind.wrap .u8 x65)::([]:List Int)))) fun x67 =>
 bif (lE x67) then
 some (Sum.inl ((wI (v62-z1)),(tA x67)))
 else none
 else none
 else none
 else none
 else
 outO (bif (lE v63) then
 some (Sum.inl (tA v63))
 else none)) (z0,(tA v53))
 else none) fun v69 =>
 bif (lE v69) then
 some (Sum.inl (tA v69))
 else none) fun v70 =>
 joinO (bif (lE v70) then
 loopO (fun (v71,v72) =>
 bif (decide (v71≥z0)) then
 bindO (some (wI ((8:Int)*v71))) fun x74 =>
 bif (decide (z0≤x74)) then
 bindO (some (Int.fdiv (Go.IntKind.wrap .u64 a7) ((2:Int) ^ (Min.min (Int.toNat x74) 64)))) fun x75 =>
 bif (lE v72) then
 bif (rO ((tA v72)++((Go.IntKind.wrap .u8 x75)::([]:List Int))) 1) then
 bindO (some ((tA v72)++((Go.IntKind.wrap .u8 x75)::([]:List Int)))) fun x77 =>
 bif (lE x77) then
 some (Sum.inl ((wI (v71-z1)),(tA x77)))
 else none
 else none
 else none
 else none
 else
 outO (bif (lE v72) then
 some (Sum.inl (tA v72))
 else none)) ((3:Int),(tA v70))
 else none) fun v79 =>
 joinO (bif (lE v79) then
 loopO (fun (v80,v81) =>
 bif (decide (v80≥z0)) then
 bindO (some (wI ((8:Int)*v80))) fun x83 =>
 bif (decide (z0≤x83)) then
 bindO (some (Int.fdiv (Go.IntKind.wrap .u64 (lI a8)) ((2:Int) ^ (Min.min (Int.toNat x83) 64)))) fun x84 =>
 bif (lE v81) then
 bif (rO ((tA v81)++((Go.IntKind.wrap .u8 x84)::([]:List Int))) 1) then
 bindO (some ((tA v81)++((Go.IntKind.wrap .u8 x84)::([]:List Int)))) fun x86 =>
 bif (lE x86) then
 some (Sum.inl ((wI (v80-z1)),(tA x86)))
 else none
 else none
 else none
 else none
 else
 outO (bif (lE v81) then
 some (Sum.inl (tA v81))
 else none)) (z1,(tA v79))
 else none) fun v88 =>
 bif (lE v88) then
 bif (rO ((tA v88)++(List.map (fun (x89:UInt8)=>(((UInt8.toNat x89):Nat):Int)) a8)) 1) then
 bindO (some ((tA v88)++(List.map (fun (x91:UInt8)=>(((UInt8.toNat x91):Nat):Int)) a8))) fun x90 =>
 joinO (bif (lE x90) then
 loopO (fun (v92,v93) =>
 bif (decide (v92≥z0)) then
 bindO (some (wI ((8:Int)*v92))) fun x95 =>
 bif (decide (z0≤x95)) then
 bindO (some (Int.fdiv (Go.IntKind.wrap .u64 a9) ((2:Int) ^ (Min.min (Int.toNat x95) 64)))) fun x96 =>
 bif (lE v93) then
 bif (rO ((tA v93)++((Go.IntKind.wrap .u8 x96)::([]:List Int))) 1) then
 bindO (some ((tA v93)++((Go.IntKind.wrap .u8 x96)::([]:List Int)))) fun x98 =>
 bif (lE x98) then
 some (Sum.inl ((wI (v92-z1)),(tA x98)))
 else none
 else none
 else none
 else none
 else
 outO (bif (lE v93) then
 some (Sum.inl (tA v93))
 else none)) ((3:Int),(tA x90))
 else none) fun v100 =>
 joinO (bif (lE v100) then
 loopO (fun (v101,v102) =>
 bif (decide (v101≥z0)) then
 bindO (some (wI ((8:Int)*v101))) fun x104 =>
 bif (decide (z0≤x104)) then
 bindO (some (Int.fdiv (Go.IntKind.wrap .u64 (lI a6)) ((2:Int) ^ (Min.min (Int.toNat x104) 64)))) fun x105 =>
 bif (lE v102) then
 bif (rO ((tA v102)++((Go.IntKind.wrap .u8 x105)::([]:List Int))) 1) then
 bindO (some ((tA v102)++((Go.IntKind.wrap .u8 x105)::([]:List Int)))) fun x107 =>
 bif (lE x107) then
 some (Sum.inl ((wI (v101-z1)),(tA x107)))
 else none
 else none
 else none
 else none
 else
 outO (bif (lE v102) then
 some (Sum.inl (tA v102))
 else none)) (z0,(tA v100))
 else none) fun v109 =>
 joinO (bif (lE v109) then
 loopO (fun (v110,v111) =>
 bif (decide (v110<(lI a6))) then
 bif (iR v110 a6) then
 bindO a6[(Int.toNat v110)]? fun x112 =>
 joinO (bif (lE v111) then
 loopO (fun (v113,v114) =>
 bif (decide (v113≥z0)) then
 bindO (some (wI ((8:Int)*v113))) fun x116 =>
 bif (decide (z0≤x116)) then
 bindO (some (Int.fdiv (Go.IntKind.wrap .u64 (lI x112.1)) ((2:Int) ^ (Min.min (Int.toNat x116) 64)))) fun x117 =>
 bif (lE v114) then
 bif (rO ((tA v114)++((Go.IntKind.wrap .u8 x117)::([]:List Int))) 1) then
 bindO (some ((tA v114)++((Go.IntKind.wrap .u8 x117)::([]:List Int)))) fun x119 =>
 bif (lE x119) then
 some (Sum.inl ((wI (v113-z1)),(tA x119)))
 else none
 else none
 else none
 else none
 else
 outO (bif (lE v114) then
 some (Sum.inl (tA v114))
 else none)) (z1,(tA v111))
 else none) fun v121 =>
 bif (lE v121) then
 bif (rO ((tA v121)++(List.map (fun (x122:UInt8)=>(((UInt8.toNat x122):Nat):Int)) x112.1)) 1) then
 bindO (some ((tA v121)++(List.map (fun (x124:UInt8)=>(((UInt8.toNat x124):Nat):Int)) x112.1))) fun x123 =>
 joinO (bif (lE x123) then
 loopO (fun (v125,v126) =>
 bif (decide (v125≥z0)) then
 bindO (some (wI ((8:Int)*v125))) fun x128 =>
 bif (decide (z0≤x128)) then
 bindO (some (Int.fdiv (Go.IntKind.wrap .u64 x112.2.1) ((2:Int) ^ (Min.min (Int.toNat x128) 64)))) fun x129 =>
 bif (lE v126) then
 bif (rO ((tA v126)++((Go.IntKind.wrap .u8 x129)::([]:List Int))) 1) then
 bindO (some ((tA v126)++((Go.IntKind.wrap .u8 x129)::([]:List Int)))) fun x131 =>
 bif (lE x131) then
 some (Sum.inl ((wI (v125-z1)),(tA x131)))
 else none
 else none
 else none
 else none
 else
 outO (bif (lE v126) then
 some (Sum.inl (tA v126))
 else none)) (z1,(tA x123))
 else none) fun v133 =>
 joinO (bif (lE v133) then
 loopO (fun (v134,v135) =>
 bif (decide (v134≥z0)) then
 bindO (some (wI ((8:Int)*v134))) fun x137 =>
 bif (decide (z0≤x137)) then
 bindO (some (Int.fdiv (Go.IntKind.wrap .u64 x112.2.2) ((2:Int) ^ (Min.min (Int.toNat x137) 64)))) fun x138 =>
 bif (lE v135) then
 bif (rO ((tA v135)++((Go.IntKind.wrap .u8 x138)::([]:List Int))) 1) then
 bindO (some ((tA v135)++((Go.IntKind.wrap .u8 x138)::([]:List Int)))) fun x140 =>
 bif (lE x140) then
 some (Sum.inl ((wI (v134-z1)),(tA x140)))
 else none
 else none
 else none
 else none
 else
 outO (bif (lE v135) then
 some (Sum.inl (tA v135))
 else none)) ((3:Int),(tA v133))
 else none) fun v142 =>
 bif (lE v142) then
 some (Sum.inl ((wI (v110+z1)),(tA v142)))
 else none
 else none
 else none
 else none
 else
 outO (bif (lE v111) then
 some (Sum.inl (tA v111))
 else none)) (z0,(tA v109))
 else none) fun v144 =>
 joinO (bif (lE v144) then
 loopO (fun (v145,v146) =>
 bif (decide (v145≥z0)) then
 bindO (some (wI ((8:Int)*v145))) fun x148 =>
 bif (decide (z0≤x148)) then
 bindO (some (Int.fdiv (Go.IntKind.wrap .u64 (lI a10)) ((2:Int) ^ (Min.min (Int.toNat x148) 64)))) fun x149 =>
 bif (lE v146) then
 bif (rO ((tA v146)++((Go.IntKind.wrap .u8 x149)::([]:List Int))) 1) then
 bindO (some ((tA v146)++((Go.IntKind.wrap .u8 x149)::([]:List Int)))) fun x151 =>
 bif (lE x151) then
 some (Sum.inl ((wI (v145-z1)),(tA x151)))
 else none
 else none
 else none
 else none
 else
 outO (bif (lE v146) then
 some (Sum.inl (tA v146))
 else none)) (z0,(tA v144))
 else none) fun v153 =>
 joinO (bif (lE v153) then
 loopO (fun (v154,v155) =>
 bif (decide (v154<(lI a10))) then
 bif (iR v154 a10) then
 bindO a10[(Int.toNat v154)]? fun x156 =>
 joinO (bif (lE v155) then
 loopO (fun (v157,v158) =>
 bif (decide (v157≥z0)) then
 bindO (some (wI ((8:Int)*v157))) fun x160 =>
 bif (decide (z0≤x160)) then
 bindO (some (Int.fdiv (Go.IntKind.wrap .u64 (lI x156)) ((2:Int) ^ (Min.min (Int.toNat x160) 64)))) fun x161 =>
 bif (lE v158) then
 bif (rO ((tA v158)++((Go.IntKind.wrap .u8 x161)::([]:List Int))) 1) then
 bindO (some ((tA v158)++((Go.IntKind.wrap .u8 x161)::([]:List Int)))) fun x163 =>
 bif (lE x163) then
 some (Sum.inl ((wI (v157-z1)),(tA x163)))
 else none
 else none
 else none
 else none
 else
 outO (bif (lE v158) then
 some (Sum.inl (tA v158))
 else none)) (z1,(tA v155))
 else none) fun v165 =>
 bif (lE v165) then
 bif (rO ((tA v165)++(List.map (fun (x166:UInt8)=>(((UInt8.toNat x166):Nat):Int)) x156)) 1) then
 bindO (some ((tA v165)++(List.map (fun (x168:UInt8)=>(((UInt8.toNat x168):Nat):Int)) x156))) fun x167 =>
 bif (lE x167) then
 some (Sum.inl ((wI (v154+z1)),(tA x167)))
 else none
 else none
 else none
 else none
 else
 outO (bif (lE v155) then
 some (Sum.inl (tA v155))
 else none)) (z0,(tA v153))
 else none) fun v170 =>
 bif (decide ((lI v170) > (4096:Int))) then
 some (([]:List Int),(4:Int))
 else
 bif (lE v170) then
 some ((tA v170),z0)
 else none
 else none
 else none
 else none
 else none
 else none
 else none
noncomputable def cons22:List (Nat×CE):=[(12,ce12)]
theorem cons22_ok:ConL Try.prog cons22:=⟨con12,trivial⟩
noncomputable def ce22:CE:=⟨[(.tmp 0 false [dI]),(.tmp 1 true [dS,dS,dI,dO,(.dat (.list (.pair .str (.pair uI6 uI6)))),dI,dS,dI,(.dat (.list .str))])],[(.tmp 0 false [dY]),(.tmp 1 false [dE])],registrar_EncodeAct⟩
theorem con22:ConOk Try.prog 22 ce22 :=
 tree_ok (plan:=planOf plan22) (eg:=egNo) KK tabL_ok (conOf_ok cons22_ok) Try.func22 (by kernel_rfl) (by kernel_rfl) 10000 (fun a r h=>Eq.trans (show _=registrar_EncodeAct a from by kernel_rfl) h)
def plan60:List (Nat×PL):=[]
noncomputable def registrar_signed:Int→Option Int:=fun a1 =>
 bif (decide (a1=(4294967295:Int))) then
 some (-1:Int)
 else
 some (wI a1)
noncomputable def cons60:List (Nat×CE):=[]
theorem cons60_ok:ConL Try.prog cons60:=trivial
noncomputable def ce60:CE:=⟨[(.tmp 0 false [(.dat (.int .u64))])],[(.tmp 0 false [dI])],registrar_signed⟩
theorem con60:ConOk Try.prog 60 ce60 :=
 tree_ok (plan:=planOf plan60) (eg:=egNo) KK tabL_ok (conOf_ok cons60_ok) Try.func60 (by kernel_rfl) (by kernel_rfl) 10000 (fun a r h=>Eq.trans (show _=registrar_signed a from by kernel_rfl) h)
def plan24:List (Nat×PL):=[(4731607904558235516945,(.carry [.tmp 0 false [(.dat (.int .u64))],.mix 4 [dY],.mix 6 [dE]])),(635065662736647214773263663617,(.carry [.tmp 4 false [(.dat (.int .u64))],.mix 4 [dY],.mix 6 [dE]])),(325153619321163373997929284239378,(.carry [.tmp 0 false [(.dat (.int .u64))],.mix 4 [dY],.mix 6 [dE]])),(166478653092435647469522429834952722,(.carry [.tmp 0 false [dY],.mix 4 [dY],.mix 6 [dE]])),(43641380036263450374816345235275523555841,(.carry [.tmp 4 false [(.dat (.int .u64))],.mix 4 [dY],.mix 6 [dE]])),(11440325928226245935055856005356066847022120978,(.carry [.tmp 0 false [dY],.mix 4 [dY],.mix 6 [dE]])),(85237070383327051504395484075496048646,(.carry [.tmp 11 false [dI],.tmp 4 false [(.dat (.int .u64))]])),(325153619321163373997929284239380,(.carry [.tmp 0 false [dY],.mix 4 [dY],.mix 6 [dE]])),(5857446875251837918748598274742306225675326195718,(.carry [.tmp 11 false [dI],.tmp 4 false [(.dat (.int .u64))]])),(325153619321163373997929552674834,(.carry [.tmp 0 false [(.dat (.int .u64))],.mix 4 [dY],.mix 6 [dE]])),(43641380036263450374816381264072542519809,(.carry [.tmp 4 false [(.dat (.int .u64))],.mix 4 [dY],.mix 6 [dE]])),(11440325928226245935055865450089032586312548370,(.carry [.tmp 0 false [dY],.mix 4 [dY],.mix 6 [dE]])),(325153619321163373997929552674836,(.carry [.tmp 0 false [dY],.mix 4 [dY],.mix 6 [dE]])),(5857446875251837918748603110445584684192025020422,(.carry [.tmp 11 false [dI],.tmp 4 false [(.dat (.int .u64))]])),(1240362622532514091484053521,(.carry [.tmp 0 false [(.dat (.int .u64))],.mix 4 [dY],.mix 6 [dE]])),(166478653092435647486973811819282945,(.carry [.tmp 4 false [(.dat (.int .u64))],.mix 4 [dY],.mix 6 [dE]])),(43641380036263450374825262925554108071954,(.carry [.tmp 0 false [dY],.mix 4 [dY],.mix 6 [dE]])),(635065662736647214839835656209,(.carry [.tmp 0 false [(.dat (.int .u64))],.mix 4 [dY],.mix 6 [dE]])),(22344386578566886591910534617883703333095430,(.carry [.tmp 11 false [dI],.tmp 4 false [(.dat (.int .u64))]])),(85237070383327051513330625669761335809,(.carry [.tmp 4 false [(.dat (.int .u64))],.mix 4 [dY],.mix 6 [dE]])),(22344386578566886591910543535573915614052370,(.carry [.tmp 0 false [dY],.mix 4 [dY],.mix 6 [dE]])),(166478653092435647486973878391275537,(.carry [.tmp 0 false [(.dat (.int .u64))],.mix 4 [dY],.mix 6 [dE]])),(11440325928226245935058198290213844794395068422,(.carry [.tmp 11 false [dI],.tmp 4 false [(.dat (.int .u64))]])),(22344386578566886591910543553025297598382593,(.carry [.tmp 4 false [(.dat (.int .u64))],.mix 4 [dY],.mix 6 [dE]])),(5857446875251837918749797529164263613630406197266,(.carry [.tmp 0 false [dY],.mix 4 [dY],.mix 6 [dE]])),(11440325928226245935058198299148986388660355090,(.carry [.tmp 0 false [(.dat (.int .u64))],.mix 4 [dY],.mix 6 [dE]])),(2999012800128941014399896334932102970178767973255174,(.carry [.tmp 11 false [dI],.tmp 4 false [(.dat (.int .u64))]])),(1535494553666017799372746923485241286588917823853298177,(.carry [.tmp 4 false [(.dat (.int .u64))],.mix 4 [dY],.mix 6 [dE]])),(402520684276224569998769369510115091831565274016198997049362,(.carry [.tmp 0 false [dY],.mix 4 [dY],.mix 6 [dE]])),(11440325928226245935058198299148986388660355092,(.carry [.tmp 0 false [dY],.mix 4 [dY],.mix 6 [dE]])),(206090590349426979839369917189178927017761420296293886489528326,(.carry [.tmp 11 false [dI],.tmp 4 false [(.dat (.int .u64))]])),(43641380036263450374825280377002664394769,(.carry [.tmp 0 false [(.dat (.int .u64))],.mix 4 [dY],.mix 6 [dE]])),(5857446875251837918749797529164281065012390527489,(.carry [.tmp 4 false [(.dat (.int .u64))],.mix 4 [dY],.mix 6 [dE]])),(1535494553666017799372746923485241295506608102437814290,(.carry [.tmp 0 false [dY],.mix 4 [dY],.mix 6 [dE]])),(43641380036263450374825280377002664395265,(.carry [.mix 24 [dS,dS,dI,dO,(.own 10000004 65 (.pair .str (.pair uI6 uI6))),dI,dS,dI,.nil],.mix 4 [dY],.mix 6 [dE]])),(786173211477001113278846424824443543299383348448161171462,(.carry [.tmp 11 false [dI],.tmp 4 false [(.dat (.int .u64))]])),(11440325928226245935058198299148986455232086033,(.carry [.tmp 0 false [(.dat (.int .u64))],.mix 4 [dY],.mix 6 [dE]])),(22344386578566886591910543553025364170375681,(.carry [.mix 24 [dS,dS,dI,dO,(.own 10000006 65 (.pair .str (.pair uI6 uI6))),dI,dS,dI,(.own 10000002 9 .str)],.mix 4 [dY],.mix 6 [dE],.dead 10000004])),(1535494553666017799372746923485241295524024300050055681,(.carry [.tmp 4 false [(.dat (.int .u64))],.mix 4 [dY],.mix 6 [dE]])),(5857446875251837918749797529164281065078828304390,(.carry [.tmp 47 false [(.dat (.int .u64))],.mix 24 [dS,dS,dI,dO,(.own 10000003 65 (.pair .str (.pair uI6 uI6))),dI,dS,dI,.nil],.mix 4 [dY],.mix 6 [dE]])),(5857446875251837918749797529164281065078962257937,(.carry [.tmp 0 false [(.dat (.int .u64))],.mix 4 [dY],.mix 6 [dE]])),(402520684276224569998769369510115094173849826112321796177938,(.carry [.tmp 0 false [dY],.mix 4 [dY],.mix 6 [dE]])),(786173211477001113278846424824443543308318454858054369793,(.carry [.tmp 4 false [(.dat (.int .u64))],.mix 4 [dY],.mix 6 [dE]])),(2999012800128941014399896334932111905320428676319238,(.carry [.tmp 69 false [(.dat (.int .u64))],.mix 24 [dS,dS,dI,dO,(.own 10000005 65 (.pair .str (.pair uI6 uI6))),dI,dS,dI,(.own 10000001 9 .str)],.mix 4 [dY],.mix 6 [dE],.dead 10000004])),(14162437529025953452002322041180027868550309617466840484466301507352133650,(.carry [.tmp 0 false [(.dat (.int .u64))],.mix 4 [dY],.mix 6 [dE]])),(206090590349426979839369917189178928217015833030309804714754066,(.carry [.tmp 0 false [dY],.mix 4 [dY],.mix 6 [dE]])),(206090590349426979839369917189178928217011110969508759643359238,(.carry [.tmp 11 false [dI],.tmp 4 false [(.dat (.int .u64))]])),(1900850188087797525361508715091505779493505210552948445163486280879778674455609857,(.carry [.tmp 4 false [(.dat (.int .u64))],.mix 4 [dY],.mix 6 [dE]])),(14162437529025953452002322041180027868550633498476566587794072858018447378,(.carry [.tmp 0 false [(.dat (.int .u64))],.mix 4 [dY],.mix 6 [dE]])),(498296471706087594488367340608947691059545429915192117208936947614948700836491390091282,(.carry [.tmp 0 false [dY],.mix 4 [dY],.mix 6 [dE]])),(105518382258906613677757397600859611247112106511518620013954336774,(.carry [.tmp 11 false [dI],.tmp 4 false [(.dat (.int .u64))]])),(1900850188087797525361508715091505779493548681126216228654432990869702589162979841,(.carry [.tmp 4 false [(.dat (.int .u64))],.mix 4 [dY],.mix 6 [dE]])),(14162437529025953452002322041180027868550309617466840484466301507352133652,(.carry [.tmp 0 false [dY],.mix 4 [dY],.mix 6 [dE]])),(498296471706087594488367340608947691059556825465150827044387681958547315533540187176978,(.carry [.tmp 0 false [dY],.mix 4 [dY],.mix 6 [dE]])),(255127793513516848378044078391781217822487260116578364010975717178853734828283591726991366,(.carry [.tmp 11 false [dI],.tmp 4 false [(.dat (.int .u64))]])),(14162437529025953452002322041180027868550633498476566587794072858018447380,(.carry [.tmp 0 false [dY],.mix 4 [dY],.mix 6 [dE]])),(54025411716560186203011787571640120958520163030497896135201650901009,(.carry [.tmp 0 false [(.dat (.int .u64))],.mix 4 [dY],.mix 6 [dE]])),(255127793513516848378044078391781217822493094638157223446726493162776225553172575834867718,(.carry [.tmp 11 false [dI],.tmp 4 false [(.dat (.int .u64))]])),(7251168014861288167425188885084174268697758524143022328046746405782581150209,(.carry [.tmp 4 false [(.dat (.int .u64))],.mix 4 [dY],.mix 6 [dE]])),(1900850188087797525361508715091505779493505210552948445163486289797468953040125970,(.carry [.tmp 0 false [dY],.mix 4 [dY],.mix 6 [dE]])),(27661010798878815335942035236679741930762323471614922821223245261570065,(.carry [.tmp 0 false [(.dat (.int .u64))],.mix 4 [dY],.mix 6 [dE]])),(973235296300952332985092462126850959100674667803109603923704980376304103956544751622,(.carry [.tmp 11 false [dI],.tmp 4 false [(.dat (.int .u64))]])),(3712598023608979541721696709163097225573252364361227431959934159794699837374977,(.carry [.tmp 4 false [(.dat (.int .u64))],.mix 4 [dY],.mix 6 [dE]])),(973235296300952332985092462126850959100674667803109603923704980385221794168825708562,(.carry [.tmp 0 false [dY],.mix 4 [dY],.mix 6 [dE]])),(498296471706087594488367340608947691059545429915192117208936949957233558614438763038726,(.carry [.tmp 11 false [dI],.tmp 4 false [(.dat (.int .u64))]]))]
noncomputable def registrar_DecodeAct:LN→Option (Int×((LU×(LU×(Int×(Bool×((List (LU×(Int×Int)))×(Int×(LU×(Int×(List LU)))))))))×Int)):=fun a1 =>
 joinO (joinO (joinO (bif (decide ((lI a1)<(8:Int))) then
 some (Sum.inl (([]:List Int),(a1,(6:Int))))
 else
 bif ((decide ((z0≤(8:Int))∧((8:Int)≤(lI a1))))&&Bool.true) then
 bif (decide ((z0≤(8:Int))∧((8:Int)≤(lI a1)))) then
 some (Sum.inl ((List.take 8 a1),((List.drop 8 a1),z0)))
 else none
 else none) fun (v4,(v5,v6)) =>
 loopO (fun (v7,v8) =>
 bif (decide (v7<(lI v4))) then
 bif (iR v7 v4) then
 bindO v4[(Int.toNat v7)]? fun x9 =>
 some (Sum.inl ((wI (v7+z1)),(Go.IntKind.wrap .u64 (((BitVec.toNat ((BitVec.ofInt 64 (Go.IntKind.wrap .u64 (v8*(256:Int)))) ||| (BitVec.ofInt 64 (Go.IntKind.wrap .u64 x9)))):Nat):Int))))
 else none
 else
 outO (some (Sum.inl (v8,(v5,v6))))) (z0,z0)) fun (v14,(v15,v16)) =>
 some (Sum.inl (v14,(v15,v16)))) fun (v17,(v18,v19)) =>
 joinO (joinO (joinO (bif (decide (v19≠z0)) then
 some (Sum.inl (([]:List Int),(v18,(6:Int))))
 else
 bif (decide ((lI v18)<(2:Int))) then
 some (Sum.inl (([]:List Int),(v18,(6:Int))))
 else
 bif ((decide ((z0≤(2:Int))∧((2:Int)≤(lI v18))))&&Bool.true) then
 bif (decide ((z0≤(2:Int))∧((2:Int)≤(lI v18)))) then
 some (Sum.inl ((List.take 2 v18),((List.drop 2 v18),v19)))
 else none
 else none) fun (v22,(v23,v24)) =>
 loopO (fun (v25,v26) =>
 bif (decide (v25<(lI v22))) then
 bif (iR v25 v22) then
 bindO v22[(Int.toNat v25)]? fun x27 =>
 some (Sum.inl ((wI (v25+z1)),(Go.IntKind.wrap .u64 (((BitVec.toNat ((BitVec.ofInt 64 (Go.IntKind.wrap .u64 (v26*(256:Int)))) ||| (BitVec.ofInt 64 (Go.IntKind.wrap .u64 x27)))):Nat):Int))))
 else none
 else
 outO (some (Sum.inl (v26,(v23,v24))))) (z0,z0)) fun (v32,(v33,v34)) =>
 some (Sum.inl (v32,(v33,v34)))) fun (v35,(v36,v37)) =>
 joinO (bif (decide (v37≠z0)) then
 some (Sum.inl (([]:List Int),(v36,(6:Int))))
 else
 bif (decide ((lI v36)<(wI v35))) then
 some (Sum.inl (([]:List Int),(v36,(6:Int))))
 else
 bif ((decide ((z0≤(wI v35))∧((wI v35)≤(lI v36))))&&(decide ((z0≤(wI v35))∧((wI v35)≤(((Int.toNat (wI v35)):Nat):Int))))) then
 bif (decide ((z0≤(wI v35))∧((wI v35)≤(lI v36)))) then
 some (Sum.inl ((List.take (Int.toNat (wI v35)) v36),((List.drop (Int.toNat (wI v35)) v36),v37)))
 else none
 else none) fun (v41,(v42,v43)) =>
 joinO (joinO (joinO (bif (decide (v43≠z0)) then
 some (Sum.inl (([]:List Int),(v42,(6:Int))))
 else
 bif (decide ((lI v42)<(2:Int))) then
 some (Sum.inl (([]:List Int),(v42,(6:Int))))
 else
 bif ((decide ((z0≤(2:Int))∧((2:Int)≤(lI v42))))&&Bool.true) then
 bif (decide ((z0≤(2:Int))∧((2:Int)≤(lI v42)))) then
 some (Sum.inl ((List.take 2 v42),((List.drop 2 v42),v43)))
 else none
 else none) fun (v46,(v47,v48)) =>
 loopO (fun (v49,v50) =>
 bif (decide (v49<(lI v46))) then
 bif (iR v49 v46) then
 bindO v46[(Int.toNat v49)]? fun x51 =>
 some (Sum.inl ((wI (v49+z1)),(Go.IntKind.wrap .u64 (((BitVec.toNat ((BitVec.ofInt 64 (Go.IntKind.wrap .u64 (v50*(256:Int)))) ||| (BitVec.ofInt 64 (Go.IntKind.wrap .u64 x51)))):Nat):Int))))
 else none
 else
 outO (some (Sum.inl (v50,(v47,v48))))) (z0,z0)) fun (v56,(v57,v58)) =>
 some (Sum.inl (v56,(v57,v58)))) fun (v59,(v60,v61)) =>
 joinO (bif (decide (v61≠z0)) then
 some (Sum.inl (([]:List Int),(v60,(6:Int))))
 else
 bif (decide ((lI v60)<(wI v59))) then
 some (Sum.inl (([]:List Int),(v60,(6:Int))))
 else
 bif ((decide ((z0≤(wI v59))∧((wI v59)≤(lI v60))))&&(decide ((z0≤(wI v59))∧((wI v59)≤(((Int.toNat (wI v59)):Nat):Int))))) then
 bif (decide ((z0≤(wI v59))∧((wI v59)≤(lI v60)))) then
 some (Sum.inl ((List.take (Int.toNat (wI v59)) v60),((List.drop (Int.toNat (wI v59)) v60),v61)))
 else none
 else none) fun (v65,(v66,v67)) =>
 joinO (joinO (joinO (bif (decide (v67≠z0)) then
 some (Sum.inl (([]:List Int),(v66,(6:Int))))
 else
 bif (decide ((lI v66)<(4:Int))) then
 some (Sum.inl (([]:List Int),(v66,(6:Int))))
 else
 bif ((decide ((z0≤(4:Int))∧((4:Int)≤(lI v66))))&&Bool.true) then
 bif (decide ((z0≤(4:Int))∧((4:Int)≤(lI v66)))) then
 some (Sum.inl ((List.take 4 v66),((List.drop 4 v66),v67)))
 else none
 else none) fun (v70,(v71,v72)) =>
 loopO (fun (v73,v74) =>
 bif (decide (v73<(lI v70))) then
 bif (iR v73 v70) then
 bindO v70[(Int.toNat v73)]? fun x75 =>
 some (Sum.inl ((wI (v73+z1)),(Go.IntKind.wrap .u64 (((BitVec.toNat ((BitVec.ofInt 64 (Go.IntKind.wrap .u64 (v74*(256:Int)))) ||| (BitVec.ofInt 64 (Go.IntKind.wrap .u64 x75)))):Nat):Int))))
 else none
 else
 outO (some (Sum.inl (v74,(v71,v72))))) (z0,z0)) fun (v80,(v81,v82)) =>
 some (Sum.inl (v80,(v81,v82)))) fun (v83,(v84,v85)) =>
 bindO (registrar_signed v83) fun x86 =>
 joinO (joinO (joinO (bif (decide (v85≠z0)) then
 some (Sum.inl (([]:List Int),(v84,(6:Int))))
 else
 bif (decide ((lI v84)<z1)) then
 some (Sum.inl (([]:List Int),(v84,(6:Int))))
 else
 bif ((decide ((z0≤z1)∧(z1≤(lI v84))))&&Bool.true) then
 bif (decide ((z0≤z1)∧(z1≤(lI v84)))) then
 some (Sum.inl ((List.take 1 v84),((List.drop 1 v84),v85)))
 else none
 else none) fun (v89,(v90,v91)) =>
 loopO (fun (v92,v93) =>
 bif (decide (v92<(lI v89))) then
 bif (iR v92 v89) then
 bindO v89[(Int.toNat v92)]? fun x94 =>
 some (Sum.inl ((wI (v92+z1)),(Go.IntKind.wrap .u64 (((BitVec.toNat ((BitVec.ofInt 64 (Go.IntKind.wrap .u64 (v93*(256:Int)))) ||| (BitVec.ofInt 64 (Go.IntKind.wrap .u64 x94)))):Nat):Int))))
 else none
 else
 outO (some (Sum.inl (v93,(v90,v91))))) (z0,z0)) fun (v99,(v100,v101)) =>
 some (Sum.inl (v99,(v100,v101)))) fun (v102,(v103,v104)) =>
 joinO (joinO (joinO (bif (decide (v104≠z0)) then
 some (Sum.inl (([]:List Int),(v103,(6:Int))))
 else
 bif (decide ((lI v103)<(4:Int))) then
 some (Sum.inl (([]:List Int),(v103,(6:Int))))
 else
 bif ((decide ((z0≤(4:Int))∧((4:Int)≤(lI v103))))&&Bool.true) then
 bif (decide ((z0≤(4:Int))∧((4:Int)≤(lI v103)))) then
 some (Sum.inl ((List.take 4 v103),((List.drop 4 v103),v104)))
 else none
 else none) fun (v107,(v108,v109)) =>
 loopO (fun (v110,v111) =>
 bif (decide (v110<(lI v107))) then
 bif (iR v110 v107) then
 bindO v107[(Int.toNat v110)]? fun x112 =>
 some (Sum.inl ((wI (v110+z1)),(Go.IntKind.wrap .u64 (((BitVec.toNat ((BitVec.ofInt 64 (Go.IntKind.wrap .u64 (v111*(256:Int)))) ||| (BitVec.ofInt 64 (Go.IntKind.wrap .u64 x112)))):Nat):Int))))
 else none
 else
 outO (some (Sum.inl (v111,(v108,v109))))) (z0,z0)) fun (v117,(v118,v119)) =>
 some (Sum.inl (v117,(v118,v119)))) fun (v120,(v121,v122)) =>
 bindO (registrar_signed v120) fun x123 =>
 joinO (joinO (joinO (bif (decide (v122≠z0)) then
 some (Sum.inl (([]:List Int),(v121,(6:Int))))
 else
 bif (decide ((lI v121)<(2:Int))) then
 some (Sum.inl (([]:List Int),(v121,(6:Int))))
 else
 bif ((decide ((z0≤(2:Int))∧((2:Int)≤(lI v121))))&&Bool.true) then
 bif (decide ((z0≤(2:Int))∧((2:Int)≤(lI v121)))) then
 some (Sum.inl ((List.take 2 v121),((List.drop 2 v121),v122)))
 else none
 else none) fun (v126,(v127,v128)) =>
 loopO (fun (v129,v130) =>
 bif (decide (v129<(lI v126))) then
 bif (iR v129 v126) then
 bindO v126[(Int.toNat v129)]? fun x131 =>
 some (Sum.inl ((wI (v129+z1)),(Go.IntKind.wrap .u64 (((BitVec.toNat ((BitVec.ofInt 64 (Go.IntKind.wrap .u64 (v130*(256:Int)))) ||| (BitVec.ofInt 64 (Go.IntKind.wrap .u64 x131)))):Nat):Int))))
 else none
 else
 outO (some (Sum.inl (v130,(v127,v128))))) (z0,z0)) fun (v136,(v137,v138)) =>
 some (Sum.inl (v136,(v137,v138)))) fun (v139,(v140,v141)) =>
 joinO (bif (decide (v141≠z0)) then
 some (Sum.inl (([]:List Int),(v140,(6:Int))))
 else
 bif (decide ((lI v140)<(wI v139))) then
 some (Sum.inl (([]:List Int),(v140,(6:Int))))
 else
 bif ((decide ((z0≤(wI v139))∧((wI v139)≤(lI v140))))&&(decide ((z0≤(wI v139))∧((wI v139)≤(((Int.toNat (wI v139)):Nat):Int))))) then
 bif (decide ((z0≤(wI v139))∧((wI v139)≤(lI v140)))) then
 some (Sum.inl ((List.take (Int.toNat (wI v139)) v140),((List.drop (Int.toNat (wI v139)) v140),v141)))
 else none
 else none) fun (v145,(v146,v147)) =>
 joinO (joinO (joinO (bif (decide (v147≠z0)) then
 some (Sum.inl (([]:List Int),(v146,(6:Int))))
 else
 bif (decide ((lI v146)<(4:Int))) then
 some (Sum.inl (([]:List Int),(v146,(6:Int))))
 else
 bif ((decide ((z0≤(4:Int))∧((4:Int)≤(lI v146))))&&Bool.true) then
 bif (decide ((z0≤(4:Int))∧((4:Int)≤(lI v146)))) then
 some (Sum.inl ((List.take 4 v146),((List.drop 4 v146),v147)))
 else none
 else none) fun (v150,(v151,v152)) =>
 loopO (fun (v153,v154) =>
 bif (decide (v153<(lI v150))) then
 bif (iR v153 v150) then
 bindO v150[(Int.toNat v153)]? fun x155 =>
 some (Sum.inl ((wI (v153+z1)),(Go.IntKind.wrap .u64 (((BitVec.toNat ((BitVec.ofInt 64 (Go.IntKind.wrap .u64 (v154*(256:Int)))) ||| (BitVec.ofInt 64 (Go.IntKind.wrap .u64 x155)))):Nat):Int))))
 else none
 else
 outO (some (Sum.inl (v154,(v151,v152))))) (z0,z0)) fun (v160,(v161,v162)) =>
 some (Sum.inl (v160,(v161,v162)))) fun (v163,(v164,v165)) =>
 bindO (registrar_signed v163) fun x166 =>
 joinO (joinO (joinO (joinO (bif (decide (v165≠z0)) then
 some (Sum.inl (([]:List Int),(v164,(6:Int))))
 else
 bif (decide ((lI v164)<z1)) then
 some (Sum.inl (([]:List Int),(v164,(6:Int))))
 else
 bif ((decide ((z0≤z1)∧(z1≤(lI v164))))&&Bool.true) then
 bif (decide ((z0≤z1)∧(z1≤(lI v164)))) then
 some (Sum.inl ((List.take 1 v164),((List.drop 1 v164),v165)))
 else none
 else none) fun (v169,(v170,v171)) =>
 loopO (fun (v172,v173) =>
 bif (decide (v172<(lI v169))) then
 bif (iR v172 v169) then
 bindO v169[(Int.toNat v172)]? fun x174 =>
 some (Sum.inl ((wI (v172+z1)),(Go.IntKind.wrap .u64 (((BitVec.toNat ((BitVec.ofInt 64 (Go.IntKind.wrap .u64 (v173*(256:Int)))) ||| (BitVec.ofInt 64 (Go.IntKind.wrap .u64 x174)))):Nat):Int))))
 else none
 else
 outO (some (Sum.inl (v173,(v170,v171))))) (z0,z0)) fun (v179,(v180,v181)) =>
 some (Sum.inl (v179,(v180,v181)))) fun (v182,(v183,v184)) =>
 loopO (fun (v185,((v186,(v187,(v188,(v189,(v190,(v191,(v192,v193))))))),(v194,v195))) =>
 bif (decide (v185<v182)) then
 joinO (joinO (joinO (bif (decide (v195≠z0)) then
 some (Sum.inl (([]:List Int),(v194,(6:Int))))
 else
 bif (decide ((lI v194)<(2:Int))) then
 some (Sum.inl (([]:List Int),(v194,(6:Int))))
 else
 bif ((decide ((z0≤(2:Int))∧((2:Int)≤(lI v194))))&&Bool.true) then
 bif (decide ((z0≤(2:Int))∧((2:Int)≤(lI v194)))) then
 some (Sum.inl ((List.take 2 v194),((List.drop 2 v194),v195)))
 else none
 else none) fun (v198,(v199,v200)) =>
 loopO (fun (v201,v202) =>
 bif (decide (v201<(lI v198))) then
 bif (iR v201 v198) then
 bindO v198[(Int.toNat v201)]? fun x203 =>
 some (Sum.inl ((wI (v201+z1)),(Go.IntKind.wrap .u64 (((BitVec.toNat ((BitVec.ofInt 64 (Go.IntKind.wrap .u64 (v202*(256:Int)))) ||| (BitVec.ofInt 64 (Go.IntKind.wrap .u64 x203)))):Nat):Int))))
 else none
 else
 outO (some (Sum.inl (v202,(v199,v200))))) (z0,z0)) fun (v208,(v209,v210)) =>
 some (Sum.inl (v208,(v209,v210)))) fun (v211,(v212,v213)) =>
 joinO (bif (decide (v213≠z0)) then
 some (Sum.inl (([]:List Int),(v212,(6:Int))))
 else
 bif (decide ((lI v212)<(wI v211))) then
 some (Sum.inl (([]:List Int),(v212,(6:Int))))
 else
 bif ((decide ((z0≤(wI v211))∧((wI v211)≤(lI v212))))&&(decide ((z0≤(wI v211))∧((wI v211)≤(((Int.toNat (wI v211)):Nat):Int))))) then
 bif (decide ((z0≤(wI v211))∧((wI v211)≤(lI v212)))) then
 some (Sum.inl ((List.take (Int.toNat (wI v211)) v212),((List.drop (Int.toNat (wI v211)) v212),v213)))
 else none
 else none) fun (v217,(v218,v219)) =>
 joinO (joinO (joinO (bif (decide (v219≠z0)) then
 some (Sum.inl (([]:List Int),(v218,(6:Int))))
 else
 bif (decide ((lI v218)<(2:Int))) then
 some (Sum.inl (([]:List Int),(v218,(6:Int))))
 else
 bif ((decide ((z0≤(2:Int))∧((2:Int)≤(lI v218))))&&Bool.true) then
 bif (decide ((z0≤(2:Int))∧((2:Int)≤(lI v218)))) then
 some (Sum.inl ((List.take 2 v218),((List.drop 2 v218),v219)))
 else none
 else none) fun (v222,(v223,v224)) =>
 loopO (fun (v225,v226) =>
 bif (decide (v225<(lI v222))) then
 bif (iR v225 v222) then
 bindO v222[(Int.toNat v225)]? fun x227 =>
 some (Sum.inl ((wI (v225+z1)),(Go.IntKind.wrap .u64 (((BitVec.toNat ((BitVec.ofInt 64 (Go.IntKind.wrap .u64 (v226*(256:Int)))) ||| (BitVec.ofInt 64 (Go.IntKind.wrap .u64 x227)))):Nat):Int))))
 else none
 else
 outO (some (Sum.inl (v226,(v223,v224))))) (z0,z0)) fun (v232,(v233,v234)) =>
 some (Sum.inl (v232,(v233,v234)))) fun (v235,(v236,v237)) =>
 joinO (joinO (joinO (bif (decide (v237≠z0)) then
 some (Sum.inl (([]:List Int),(v236,(6:Int))))
 else
 bif (decide ((lI v236)<(4:Int))) then
 some (Sum.inl (([]:List Int),(v236,(6:Int))))
 else
 bif ((decide ((z0≤(4:Int))∧((4:Int)≤(lI v236))))&&Bool.true) then
 bif (decide ((z0≤(4:Int))∧((4:Int)≤(lI v236)))) then
 some (Sum.inl ((List.take 4 v236),((List.drop 4 v236),v237)))
 else none
 else none) fun (v241,(v242,v243)) =>
 loopO (fun (v244,v245) =>
 bif (decide (v244<(lI v241))) then
 bif (iR v244 v241) then
 bindO v241[(Int.toNat v244)]? fun x246 =>
 some (Sum.inl ((wI (v244+z1)),(Go.IntKind.wrap .u64 (((BitVec.toNat ((BitVec.ofInt 64 (Go.IntKind.wrap .u64 (v245*(256:Int)))) ||| (BitVec.ofInt 64 (Go.IntKind.wrap .u64 x246)))):Nat):Int))))
 else none
 else
 outO (some (Sum.inl (v245,(v242,v243))))) (z0,z0)) fun (v251,(v252,v253)) =>
 some (Sum.inl (v251,(v252,v253)))) fun (v254,(v255,v256)) =>
 bindO (registrar_signed v254) fun x257 =>
 bif (lE v190) then
 bif (rO ((tA v190)++(((bytesU v217),((wI v235),x257))::([]:List (LU×(Int×Int))))) 32) then
 bindO (some ((tA v190)++(((bytesU v217),((wI v235),x257))::([]:List (LU×(Int×Int)))))) fun x258 =>
 bif (lE x258) then
 some (Sum.inl ((Go.IntKind.wrap .u64 (v185+z1)),((v186,(v187,(v188,(v189,((tA x258),(v191,(v192,v193))))))),(v255,v256))))
 else none
 else none
 else none
 else
 outO (bif (lE v190) then
 some (Sum.inl ((v186,(v187,(v188,(v189,((tA v190),(v191,(v192,v193))))))),(v194,v195)))
 else none)) (z0,(((bytesU v41),((bytesU v65),(x86,((decide (v102=z1)),(([]:List (LU×(Int×Int))),(x123,((bytesU v145),x166))))))),(v183,v184)))) fun ((v260,(v261,(v262,(v263,(v264,(v265,(v266,v267))))))),(v268,v269)) =>
 joinO (joinO (joinO (joinO (bif (decide (v269≠z0)) then
 some (Sum.inl (([]:List Int),(v268,(6:Int))))
 else
 bif (decide ((lI v268)<z1)) then
 some (Sum.inl (([]:List Int),(v268,(6:Int))))
 else
 bif ((decide ((z0≤z1)∧(z1≤(lI v268))))&&Bool.true) then
 bif (decide ((z0≤z1)∧(z1≤(lI v268)))) then
 some (Sum.inl ((List.take 1 v268),((List.drop 1 v268),v269)))
 else none
 else none) fun (v272,(v273,v274)) =>
 loopO (fun (v275,v276) =>
 bif (decide (v275<(lI v272))) then
 bif (iR v275 v272) then
 bindO v272[(Int.toNat v275)]? fun x277 =>
 some (Sum.inl ((wI (v275+z1)),(Go.IntKind.wrap .u64 (((BitVec.toNat ((BitVec.ofInt 64 (Go.IntKind.wrap .u64 (v276*(256:Int)))) ||| (BitVec.ofInt 64 (Go.IntKind.wrap .u64 x277)))):Nat):Int))))
 else none
 else
 outO (some (Sum.inl (v276,(v273,v274))))) (z0,z0)) fun (v282,(v283,v284)) =>
 some (Sum.inl (v282,(v283,v284)))) fun (v285,(v286,v287)) =>
 bif (lE v264) then
 loopO (fun (v288,((v289,(v290,(v291,(v292,(v293,(v294,(v295,(v296,v297)))))))),(v298,v299))) =>
 bif (decide (v288<v285)) then
 joinO (joinO (joinO (bif (decide (v299≠z0)) then
 some (Sum.inl (([]:List Int),(v298,(6:Int))))
 else
 bif (decide ((lI v298)<(2:Int))) then
 some (Sum.inl (([]:List Int),(v298,(6:Int))))
 else
 bif ((decide ((z0≤(2:Int))∧((2:Int)≤(lI v298))))&&Bool.true) then
 bif (decide ((z0≤(2:Int))∧((2:Int)≤(lI v298)))) then
 some (Sum.inl ((List.take 2 v298),((List.drop 2 v298),v299)))
 else none
 else none) fun (v302,(v303,v304)) =>
 loopO (fun (v305,v306) =>
 bif (decide (v305<(lI v302))) then
 bif (iR v305 v302) then
 bindO v302[(Int.toNat v305)]? fun x307 =>
 some (Sum.inl ((wI (v305+z1)),(Go.IntKind.wrap .u64 (((BitVec.toNat ((BitVec.ofInt 64 (Go.IntKind.wrap .u64 (v306*(256:Int)))) ||| (BitVec.ofInt 64 (Go.IntKind.wrap .u64 x307)))):Nat):Int))))
 else none
 else
 outO (some (Sum.inl (v306,(v303,v304))))) (z0,z0)) fun (v312,(v313,v314)) =>
 some (Sum.inl (v312,(v313,v314)))) fun (v315,(v316,v317)) =>
 joinO (bif (decide (v317≠z0)) then
 some (Sum.inl (([]:List Int),(v316,(6:Int))))
 else
 bif (decide ((lI v316)<(wI v315))) then
 some (Sum.inl (([]:List Int),(v316,(6:Int))))
 else
 bif ((decide ((z0≤(wI v315))∧((wI v315)≤(lI v316))))&&(decide ((z0≤(wI v315))∧((wI v315)≤(((Int.toNat (wI v315)):Nat):Int))))) then
 bif (decide ((z0≤(wI v315))∧((wI v315)≤(lI v316)))) then
 some (Sum.inl ((List.take (Int.toNat (wI v315)) v316),((List.drop (Int.toNat (wI v315)) v316),v317)))
 else none
 else none) fun (v321,(v322,v323)) =>
 bif (lE v297) then
 bif (rO ((tA v297)++((bytesU v321)::([]:List LU))) 16) then
 bindO (some ((tA v297)++((bytesU v321)::([]:List LU)))) fun x324 =>
 bif ((lE v293)&&(lE x324)) then
 some (Sum.inl ((Go.IntKind.wrap .u64 (v288+z1)),((v289,(v290,(v291,(v292,((tA v293),(v294,(v295,(v296,(tA x324))))))))),(v322,v323))))
 else none
 else none
 else none
 else
 outO (bif ((lE v293)&&(lE v297)) then
 some (Sum.inl ((v289,(v290,(v291,(v292,((tA v293),(v294,(v295,(v296,(tA v297))))))))),(v298,v299)))
 else none)) (z0,((v260,(v261,(v262,(v263,((tA v264),(v265,(v266,(v267,([]:List LU))))))))),(v286,v287)))
 else none) fun ((v326,(v327,(v328,(v329,(v330,(v331,(v332,(v333,v334)))))))),(v335,v336)) =>
 bif (decide (v336≠z0)) then
 some (z0,((([]:List UInt8),(([]:List UInt8),(z0,(Bool.false,(([]:List (LU×(Int×Int))),(z0,(([]:List UInt8),(z0,([]:List LU))))))))),v336))
 else
 bif (decide ((lI v335) > z0)) then
 some (z0,((([]:List UInt8),(([]:List UInt8),(z0,(Bool.false,(([]:List (LU×(Int×Int))),(z0,(([]:List UInt8),(z0,([]:List LU))))))))),(5:Int)))
 else
 bif (decide (v102 > z1)) then
 some (z0,((([]:List UInt8),(([]:List UInt8),(z0,(Bool.false,(([]:List (LU×(Int×Int))),(z0,(([]:List UInt8),(z0,([]:List LU))))))))),(5:Int)))
 else
 bif (decide (v17 > (1099511627776:Int))) then
 some (z0,((([]:List UInt8),(([]:List UInt8),(z0,(Bool.false,(([]:List (LU×(Int×Int))),(z0,(([]:List UInt8),(z0,([]:List LU))))))))),(5:Int)))
 else
 bif ((lE v330)&&(lE v334)) then
 bindO (registrar_Formed (v326,(v327,(v328,(v329,((tA v330),(v331,(v332,(v333,(tA v334)))))))))) fun x337 =>
 bif (!x337) then
 some (z0,((([]:List UInt8),(([]:List UInt8),(z0,(Bool.false,(([]:List (LU×(Int×Int))),(z0,(([]:List UInt8),(z0,([]:List LU))))))))),(5:Int)))
 else
 bif ((lE v330)&&(lE v334)) then
 some ((wI v17),((v326,(v327,(v328,(v329,((tA v330),(v331,(v332,(v333,(tA v334))))))))),z0))
 else none
 else none
noncomputable def cons24:List (Nat×CE):=[(60,ce60),(12,ce12)]
theorem cons24_ok:ConL Try.prog cons24:=⟨con60,con12,trivial⟩
noncomputable def ce24:CE:=⟨[(.tmp 0 false [dY])],[(.tmp 0 false [dI]),(.tmp 1 true [dS,dS,dI,dO,(.dat (.list (.pair .str (.pair uI6 uI6)))),dI,dS,dI,(.dat (.list .str))]),(.tmp 2 false [dE])],registrar_DecodeAct⟩
theorem con24:ConOk Try.prog 24 ce24 :=
 tree_ok (plan:=planOf plan24) (eg:=egNo) KK tabL_ok (conOf_ok cons24_ok) Try.func24 (by kernel_rfl) (by kernel_rfl) 10000 (fun a r h=>Eq.trans (show _=registrar_DecodeAct a from by kernel_rfl) h)
def plan50:List (Nat×PL):=[(134480385,(.carry [])),(18049651601311750,(.carry [.tmp 5 false [dI]]))]
noncomputable def dialtoneref22_strings:((List LU)×(List LU))→Option Bool:=fun (a1,a2) =>
 bif (decide ((lI a1)≠(lI a2))) then
 some Bool.false
 else
 joinO (loopO (fun v3 =>
 bif (decide (v3<(lI a1))) then
 bif (iR v3 a1) then
 bindO a1[(Int.toNat v3)]? fun x4 =>
 bif (iR v3 a2) then
 bindO a2[(Int.toNat v3)]? fun x5 =>
 bif (decide (x4≠x5)) then
 outO (outO (some Bool.false))
 else
 some (Sum.inl (wI (v3+z1)))
 else none
 else none
 else
 outO (some (Sum.inl ()))) z0) fun _ =>
 some Bool.true
noncomputable def cons50:List (Nat×CE):=[]
theorem cons50_ok:ConL Try.prog cons50:=trivial
noncomputable def ce50:CE:=⟨[(.tmp 0 false [(.dat (.list .str))]),(.tmp 1 false [(.dat (.list .str))])],[(.tmp 0 false [dO])],dialtoneref22_strings⟩
theorem con50:ConOk Try.prog 50 ce50 :=
 tree_ok (plan:=planOf plan50) (eg:=egNo) KK tabL_ok (conOf_ok cons50_ok) Try.func50 (by kernel_rfl) (by kernel_rfl) 10000 (fun a r h=>Eq.trans (show _=dialtoneref22_strings a from by kernel_rfl) h)
end Go.Proofs.Ytlaccfegaoaakaa
