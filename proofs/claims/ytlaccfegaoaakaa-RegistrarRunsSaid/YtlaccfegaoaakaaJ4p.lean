import Derived.Test.YtlaccfegaoaakaaB4p
import Derived.Test.YtlaccfegaoaakaaXBp
import Derived.Test.YtlaccfegaoaakaaLp
set_option linter.unusedSimpArgs false
set_option linter.unusedVariables false
set_option maxRecDepth 1000000
set_option maxHeartbeats 0
namespace Go.Proofs.Ytlaccfegaoaakaa
open Go.RowKit
def plan34:List (Nat×PL):=[]
noncomputable def registrar_within:(Int×(Int×Int))→Option Bool:=fun (a1,(a2,a3)) =>
 bif (decide (a1≥a2)) then
 some (decide (a1≤a3))
 else
 some Bool.false
noncomputable def cons34:List (Nat×CE):=(9,⟨[],riB,(fun _=>some true)⟩)::[]
theorem cons34_ok:ConL Try.prog cons34:=⟨con_true (by kernel_rfl) lives_o,trivial⟩
theorem con34:ConOk Try.prog 34 ⟨[(.tmp 0 false [dI]),(.tmp 1 false [dI]),(.tmp 2 false [dI])],[(.tmp 0 false [dO])],registrar_within⟩ :=
 tree_ok (plan:=planOf plan34) (eg:=egNo) KK tabL_ok (conOf_ok cons34_ok) Try.func34 (by kernel_rfl) (by kernel_rfl) 10000 (fun a r h=>Eq.trans (show _=registrar_within a from by kernel_rfl) h)
def plan10:List (Nat×PL):=[]
noncomputable def registrar_Valid:(Int×(Int×(Int×Int)))→Option Bool:=fun (a1,(a2,(a3,a4))) =>
 bif (decide (a1≥z1)) then
 bif (decide (a2≥a1)) then
 bif (decide (a3≥a2)) then
 bif (decide (a3≤(10000000:Int))) then
 bif (decide (a4≥z1)) then
 some (decide (a4≤(100:Int)))
 else
 some Bool.false
 else
 some Bool.false
 else
 some Bool.false
 else
 some Bool.false
 else
 some Bool.false
noncomputable def cons10:List (Nat×CE):=(34,⟨[(.tmp 0 false [dI]),(.tmp 1 false [dI]),(.tmp 2 false [dI])],[(.tmp 0 false [dO])],registrar_within⟩)::cons34
theorem cons10_ok:ConL Try.prog cons10:=⟨con34,cons34_ok⟩
theorem con10:ConOk Try.prog 10 ⟨[(.tmp 0 true [dI,dI,dI,dI])],[(.tmp 0 false [dO])],registrar_Valid⟩ :=
 tree_ok (plan:=planOf plan10) (eg:=egNo) KK tabL_ok (conOf_ok cons10_ok) Try.func10 (by kernel_rfl) (by kernel_rfl) 10000 (fun a r h=>Eq.trans (show _=registrar_Valid a from by kernel_rfl) h)
def plan12:List (Nat×PL):=[(262657,(.carry [])),(134480385,(.carry [])),(68853957121,(.carry [])),(18049651735527937,(.carry [])),(9241421688590303745,(.carry [])),(1240362622532514091349837830,(.carry [.tmp 79 false [dI]])),(325153619321163373997929418457106,(.carry [.tmp 0 false [dI]])),(22344386578566886589492719673984208799269377,(.carry [])),(85237070383327051513313209472019595777,(.carry [])),(786173211477001113193776809818996398598532324635760132114,(.carry [.tmp 0 false [dI]])),(11440325928226245935055860727722549716533381126,(.carry [.tmp 8 false [dI]])),(206090590349426979817069428033190991914213657709316704072892929,(.carry [])),(27661010798878815332948914248874403524792128044314172453112035183691782,(.carry [.tmp 8 false [dI]]))]
noncomputable def registrar_Formed:(LU×(LU×(Int×(Bool×((List (LU×(Int×Int)))×(Int×(LU×(Int×(List LU)))))))))→Option Bool:=fun (a1,(a2,(a3,(a4,(a5,(a6,(a7,(a8,a9)))))))) =>
 joinO (bindO (registrar_within ((lI a1),(z1,(255:Int)))) fun x10 =>
 bif (!x10) then
 outO (some Bool.false)
 else
 bindO (registrar_within ((lI a2),(z1,(255:Int)))) fun x11 =>
 bif (!x11) then
 outO (some Bool.false)
 else
 bindO (registrar_within (a3,(z0,(2147483647:Int)))) fun x12 =>
 bif (!x12) then
 outO (some Bool.false)
 else
 some (Sum.inl ())) fun _ =>
 joinO (bindO (registrar_within (a6,((-1:Int),(2147483647:Int)))) fun x13 =>
 bif (!x13) then
 outO (some Bool.false)
 else
 bif (decide ((lI a5) > (20:Int))) then
 outO (some Bool.false)
 else
 bif (decide ((lI a9) > (10:Int))) then
 outO (some Bool.false)
 else
 some (Sum.inl ())) fun _ =>
 joinO (bif a4 then
 bif (decide ((lI a5) > z0)) then
 outO (some Bool.false)
 else
 bif (decide (a6≠z0)) then
 outO (some Bool.false)
 else
 some (Sum.inl ())
 else
 some (Sum.inl ())) fun _ =>
 bif (decide ((lI a7) > (255:Int))) then
 some Bool.false
 else
 bindO (registrar_within (a8,(z0,(2147483647:Int)))) fun x14 =>
 bif (!x14) then
 some Bool.false
 else
 joinO (bif (decide (a8≠z0)) then
 bif (decide (a7=([]:List UInt8))) then
 outO (some Bool.false)
 else
 bif (decide ((lI a5) > z1)) then
 outO (some Bool.false)
 else
 some (Sum.inl ())
 else
 some (Sum.inl ())) fun _ =>
 joinO (loopO (fun v15 =>
 bif (decide (v15<(lI a5))) then
 bif (iR v15 a5) then
 bindO a5[(Int.toNat v15)]? fun x16 =>
 joinO (bindO (registrar_within ((lI x16.1),(z1,(1000:Int)))) fun x17 =>
 bif (!x17) then
 outO (outO (outO (some Bool.false)))
 else
 bindO (registrar_within (x16.2.1,(z0,(1000:Int)))) fun x18 =>
 bif (!x18) then
 outO (outO (outO (some Bool.false)))
 else
 bindO (registrar_within (x16.2.2,((-1:Int),(2147483647:Int)))) fun x19 =>
 bif (!x19) then
 outO (outO (outO (some Bool.false)))
 else
 some (Sum.inl ())) fun _ =>
 bif (decide ((z0≤v15)∧(v15≤(lI a5)))) then
 bindO (some (List.take (Int.toNat v15) a5)) fun x20 =>
 joinO (joinO (loopO (fun v21 =>
 bif (decide (v21<(lI x20))) then
 bif (iR v21 x20) then
 bindO x20[(Int.toNat v21)]? fun x22 =>
 bif (decide (x22.1=x16.1)) then
 outO (outO (some (Sum.inl v21)))
 else
 some (Sum.inl (wI (v21+z1)))
 else none
 else
 outO (some (Sum.inl ()))) z0) fun _ =>
 some (Sum.inl (-1:Int))) fun v24 =>
 bif (decide (v24≥z0)) then
 outO (outO (some Bool.false))
 else
 some (Sum.inl (wI (v15+z1)))
 else none
 else none
 else
 outO (some (Sum.inl ()))) z0) fun _ =>
 joinO (joinO (loopO (fun v26 =>
 bif (decide (v26<(lI a9))) then
 bif (iR v26 a9) then
 bindO a9[(Int.toNat v26)]? fun x27 =>
 bindO (registrar_within ((lI x27),(z1,(1000:Int)))) fun x28 =>
 bif (!x28) then
 outO (outO (some (Sum.inl v26)))
 else
 some (Sum.inl (wI (v26+z1)))
 else none
 else
 outO (some (Sum.inl ()))) z0) fun _ =>
 some (Sum.inl (-1:Int))) fun v30 =>
 some (!(decide (v30≥z0)))
noncomputable def cons12:List (Nat×CE):=(10,⟨[(.tmp 0 true [dI,dI,dI,dI])],[(.tmp 0 false [dO])],registrar_Valid⟩)::cons10
theorem cons12_ok:ConL Try.prog cons12:=⟨con10,cons10_ok⟩
theorem con12:ConOk Try.prog 12 ⟨[(.tmp 0 true [dS,dS,dI,dO,(.dat (.list (.pair .str (.pair uI6 uI6)))),dI,dS,dI,(.dat (.list .str))])],[(.tmp 0 false [dO])],registrar_Formed⟩ :=
 tree_ok (plan:=planOf plan12) (eg:=egNo) KK tabL_ok (conOf_ok cons12_ok) Try.func12 (by kernel_rfl) (by kernel_rfl) 10000 (fun a r h=>Eq.trans (show _=registrar_Formed a from by kernel_rfl) h)
def plan33:List (Nat×PL):=[]
noncomputable def dialtoneref22_within:(Int×(Int×Int))→Option Bool:=fun (a1,(a2,a3)) =>
 bif (decide (a1≥a2)) then
 some (decide (a1≤a3))
 else
 some Bool.false
noncomputable def cons33:List (Nat×CE):=(12,⟨[(.tmp 0 true [dS,dS,dI,dO,(.dat (.list (.pair .str (.pair uI6 uI6)))),dI,dS,dI,(.dat (.list .str))])],[(.tmp 0 false [dO])],registrar_Formed⟩)::cons12
theorem cons33_ok:ConL Try.prog cons33:=⟨con12,cons12_ok⟩
theorem con33:ConOk Try.prog 33 ⟨[(.tmp 0 false [dI]),(.tmp 1 false [dI]),(.tmp 2 false [dI])],[(.tmp 0 false [dO])],dialtoneref22_within⟩ :=
 tree_ok (plan:=planOf plan33) (eg:=egNo) KK tabL_ok (conOf_ok cons33_ok) Try.func33 (by kernel_rfl) (by kernel_rfl) 10000 (fun a r h=>Eq.trans (show _=dialtoneref22_within a from by kernel_rfl) h)
def plan11:List (Nat×PL):=[]
noncomputable def dialtoneref22_Valid:(Int×(Int×(Int×Int)))→Option Bool:=fun (a1,(a2,(a3,a4))) =>
 bif (decide (z1≤a1)) then
 bif (decide (a1≤a2)) then
 bif (decide (a2≤a3)) then
 bif (decide (a3≤(10000000:Int))) then
 bindO (dialtoneref22_within (a4,(z1,(100:Int)))) fun x5 =>
 some x5
 else
 some Bool.false
 else
 some Bool.false
 else
 some Bool.false
 else
 some Bool.false
noncomputable def cons11:List (Nat×CE):=(33,⟨[(.tmp 0 false [dI]),(.tmp 1 false [dI]),(.tmp 2 false [dI])],[(.tmp 0 false [dO])],dialtoneref22_within⟩)::cons33
theorem cons11_ok:ConL Try.prog cons11:=⟨con33,cons33_ok⟩
theorem con11:ConOk Try.prog 11 ⟨[(.tmp 0 true [dI,dI,dI,dI])],[(.tmp 0 false [dO])],dialtoneref22_Valid⟩ :=
 tree_ok (plan:=planOf plan11) (eg:=egNo) KK tabL_ok (conOf_ok cons11_ok) Try.func11 (by kernel_rfl) (by kernel_rfl) 10000 (fun a r h=>Eq.trans (show _=dialtoneref22_Valid a from by kernel_rfl) h)
def plan39:List (Nat×PL):=[(262657,(.carry [])),(134480385,(.carry [])),(18049651601311750,(.carry [.tmp 3 false [dI]])),(4731607869374267392513,(.carry [.tmp 5 false [dI],.drop 4])),(635065658014334951087445901825,(.carry [])),(85237069749509028565948118265862817798,(.carry [.tmp 5 false [dI]]))]
noncomputable def dialtoneref22_contacts:(LU×(LU×(Int×(Bool×((List (LU×(Int×Int)))×(Int×(LU×(Int×(List LU)))))))))→Option Bool:=fun (a1,(a2,(a3,(a4,(a5,(a6,(a7,(a8,a9)))))))) =>
 joinO (bif (decide ((lI a5) > (20:Int))) then
 outO (some Bool.false)
 else
 bif a4 then
 bif (decide ((lI a5)≠z0)) then
 outO (some Bool.false)
 else
 bif (decide (a6≠z0)) then
 outO (some Bool.false)
 else
 some (Sum.inl ())
 else
 some (Sum.inl ())) fun _ =>
 joinO (loopO (fun v10 =>
 bif (decide (v10<(lI a5))) then
 joinO (bif (iR v10 a5) then
 bindO a5[(Int.toNat v10)]? fun x11 =>
 joinO (bindO (dialtoneref22_within ((lI x11.1),(z1,(1000:Int)))) fun x12 =>
 bif (!x12) then
 outO (outO (outO (outO (some Bool.false))))
 else
 bindO (dialtoneref22_within (x11.2.1,(z0,(1000:Int)))) fun x13 =>
 bif (!x13) then
 outO (outO (outO (outO (some Bool.false))))
 else
 bindO (dialtoneref22_within (x11.2.2,((-1:Int),(2147483647:Int)))) fun x14 =>
 bif (!x14) then
 outO (outO (outO (outO (some Bool.false))))
 else
 some (Sum.inl ())) fun _ =>
 loopO (fun v15 =>
 bif (decide (v15<v10)) then
 bif (iR v15 a5) then
 bindO a5[(Int.toNat v15)]? fun x16 =>
 bif (decide (x16.1=x11.1)) then
 outO (outO (outO (outO (some Bool.false))))
 else
 some (Sum.inl (wI (v15+z1)))
 else none
 else
 outO (some (Sum.inl v15))) z0
 else none) fun v18 =>
 some (Sum.inl (wI (v10+z1)))
 else
 outO (some (Sum.inl ()))) z0) fun _ =>
 some Bool.true
noncomputable def cons39:List (Nat×CE):=(11,⟨[(.tmp 0 true [dI,dI,dI,dI])],[(.tmp 0 false [dO])],dialtoneref22_Valid⟩)::cons11
theorem cons39_ok:ConL Try.prog cons39:=⟨con11,cons11_ok⟩
theorem con39:ConOk Try.prog 39 ⟨[(.tmp 0 true [dS,dS,dI,dO,(.dat (.list (.pair .str (.pair uI6 uI6)))),dI,dS,dI,(.dat (.list .str))])],[(.tmp 0 false [dO])],dialtoneref22_contacts⟩ :=
 tree_ok (plan:=planOf plan39) (eg:=egNo) KK tabL_ok (conOf_ok cons39_ok) Try.func39 (by kernel_rfl) (by kernel_rfl) 10000 (fun a r h=>Eq.trans (show _=dialtoneref22_contacts a from by kernel_rfl) h)
def plan13:List (Nat×PL):=[(262657,(.carry [])),(134480385,(.carry [])),(68853957121,(.carry [])),(35253226045953,(.carry [])),(4731607904558101301254,(.carry [.tmp 3 false [dI]]))]
noncomputable def dialtoneref22_Formed:(LU×(LU×(Int×(Bool×((List (LU×(Int×Int)))×(Int×(LU×(Int×(List LU)))))))))→Option Bool:=fun (a1,(a2,(a3,(a4,(a5,(a6,(a7,(a8,a9)))))))) =>
 joinO (bindO (dialtoneref22_within ((lI a1),(z1,(255:Int)))) fun x10 =>
 bif (!x10) then
 outO (some Bool.false)
 else
 bindO (dialtoneref22_within ((lI a2),(z1,(255:Int)))) fun x11 =>
 bif (!x11) then
 outO (some Bool.false)
 else
 bindO (dialtoneref22_within (a3,(z0,(2147483647:Int)))) fun x12 =>
 bif (!x12) then
 outO (some Bool.false)
 else
 bindO (dialtoneref22_within (a6,((-1:Int),(2147483647:Int)))) fun x13 =>
 bif (!x13) then
 outO (some Bool.false)
 else
 some (Sum.inl ())) fun _ =>
 joinO (bindO (dialtoneref22_contacts (a1,(a2,(a3,(a4,(a5,(a6,(a7,(a8,a9))))))))) fun x14 =>
 bif (!x14) then
 outO (some Bool.false)
 else
 bif (decide ((lI a7) > (255:Int))) then
 outO (some Bool.false)
 else
 bindO (dialtoneref22_within (a8,(z0,(2147483647:Int)))) fun x15 =>
 bif (!x15) then
 outO (some Bool.false)
 else
 some (Sum.inl ())) fun _ =>
 joinO (bif (decide (a8≠z0)) then
 bif (decide ((lI a7)=z0)) then
 outO (some Bool.false)
 else
 bif (decide ((lI a5) > z1)) then
 outO (some Bool.false)
 else
 bif (decide ((lI a9) > (10:Int))) then
 outO (some Bool.false)
 else
 some (Sum.inl ())
 else
 bif (decide ((lI a9) > (10:Int))) then
 outO (some Bool.false)
 else
 some (Sum.inl ())) fun _ =>
 joinO (loopO (fun v16 =>
 bif (decide (v16<(lI a9))) then
 bif (iR v16 a9) then
 bindO a9[(Int.toNat v16)]? fun x17 =>
 bindO (dialtoneref22_within ((lI x17),(z1,(1000:Int)))) fun x18 =>
 bif (!x18) then
 outO (outO (some Bool.false))
 else
 some (Sum.inl (wI (v16+z1)))
 else none
 else
 outO (some (Sum.inl ()))) z0) fun _ =>
 some Bool.true
noncomputable def cons13:List (Nat×CE):=(39,⟨[(.tmp 0 true [dS,dS,dI,dO,(.dat (.list (.pair .str (.pair uI6 uI6)))),dI,dS,dI,(.dat (.list .str))])],[(.tmp 0 false [dO])],dialtoneref22_contacts⟩)::cons39
theorem cons13_ok:ConL Try.prog cons13:=⟨con39,cons39_ok⟩
theorem con13:ConOk Try.prog 13 ⟨[(.tmp 0 true [dS,dS,dI,dO,(.dat (.list (.pair .str (.pair uI6 uI6)))),dI,dS,dI,(.dat (.list .str))])],[(.tmp 0 false [dO])],dialtoneref22_Formed⟩ :=
 tree_ok (plan:=planOf plan13) (eg:=egNo) KK tabL_ok (conOf_ok cons13_ok) Try.func13 (by kernel_rfl) (by kernel_rfl) 10000 (fun a r h=>Eq.trans (show _=dialtoneref22_Formed a from by kernel_rfl) h)
def plan8:List (Nat×PL):=[(262657,(.carry [])),(134480385,(.carry [])),(18049651601311750,(.carry [.tmp 3 false [dI]])),(68853957121,(.carry [])),(9241421688456087558,(.carry [.tmp 4 false [dI]]))]
noncomputable def dialtonelaw22_few:(LU×(LU×(Int×(Bool×((List (LU×(Int×Int)))×(Int×(LU×(Int×(List LU)))))))))→Option Bool:=fun (a1,(a2,(a3,(a4,(a5,(a6,(a7,(a8,a9)))))))) =>
 joinO (bif (decide ((lI a5) > (30:Int))) then
 outO (some Bool.false)
 else
 bif (decide ((lI a9) > (30:Int))) then
 outO (some Bool.false)
 else
 bif (decide ((lI a1) > (2000:Int))) then
 outO (some Bool.false)
 else
 bif (decide ((lI a2) > (2000:Int))) then
 outO (some Bool.false)
 else
 bif (decide ((lI a7) > (2000:Int))) then
 outO (some Bool.false)
 else
 some (Sum.inl ())) fun _ =>
 joinO (loopO (fun v10 =>
 bif (decide (v10<(lI a5))) then
 bif (iR v10 a5) then
 bindO a5[(Int.toNat v10)]? fun x11 =>
 bif (decide ((lI x11.1) > (2000:Int))) then
 outO (outO (some Bool.false))
 else
 some (Sum.inl (wI (v10+z1)))
 else none
 else
 outO (some (Sum.inl ()))) z0) fun _ =>
 joinO (loopO (fun v13 =>
 bif (decide (v13<(lI a9))) then
 bif (iR v13 a9) then
 bindO a9[(Int.toNat v13)]? fun x14 =>
 bif (decide ((lI x14) > (2000:Int))) then
 outO (outO (some Bool.false))
 else
 some (Sum.inl (wI (v13+z1)))
 else none
 else
 outO (some (Sum.inl ()))) z0) fun _ =>
 some Bool.true
noncomputable def cons8:List (Nat×CE):=(13,⟨[(.tmp 0 true [dS,dS,dI,dO,(.dat (.list (.pair .str (.pair uI6 uI6)))),dI,dS,dI,(.dat (.list .str))])],[(.tmp 0 false [dO])],dialtoneref22_Formed⟩)::cons13
theorem cons8_ok:ConL Try.prog cons8:=⟨con13,cons13_ok⟩
theorem con8:ConOk Try.prog 8 ⟨[(.tmp 0 true [dS,dS,dI,dO,(.dat (.list (.pair .str (.pair uI6 uI6)))),dI,dS,dI,(.dat (.list .str))])],[(.tmp 0 false [dO])],dialtonelaw22_few⟩ :=
 tree_ok (plan:=planOf plan8) (eg:=egNo) KK tabL_ok (conOf_ok cons8_ok) Try.func8 (by kernel_rfl) (by kernel_rfl) 10000 (fun a r h=>Eq.trans (show _=dialtonelaw22_few a from by kernel_rfl) h)
def plan3:List (Nat×PL):=[]
noncomputable def dialtonelaw22_RegistrarForms:((Int×(Int×(Int×Int)))×(LU×(LU×(Int×(Bool×((List (LU×(Int×Int)))×(Int×(LU×(Int×(List LU))))))))))→Option Bool:=fun ((a1,(a2,(a3,a4))),(a5,(a6,(a7,(a8,(a9,(a10,(a11,(a12,a13))))))))) =>
 bindO (dialtonelaw22_few (a5,(a6,(a7,(a8,(a9,(a10,(a11,(a12,a13))))))))) fun x14 =>
 bif (!x14) then
 some Bool.true
 else
 bindO (registrar_Valid (a1,(a2,(a3,a4)))) fun x16 =>
 bindO (dialtoneref22_Valid (a1,(a2,(a3,a4)))) fun x17 =>
 bif (x16==x17) then
 bindO (registrar_Formed (a5,(a6,(a7,(a8,(a9,(a10,(a11,(a12,a13))))))))) fun x18 =>
 bindO (dialtoneref22_Formed (a5,(a6,(a7,(a8,(a9,(a10,(a11,(a12,a13))))))))) fun x19 =>
 bif (x18==x19) then
 some Bool.true
 else
 some Bool.false
 else
 some Bool.false
noncomputable def cons3:List (Nat×CE):=(8,⟨[(.tmp 0 true [dS,dS,dI,dO,(.dat (.list (.pair .str (.pair uI6 uI6)))),dI,dS,dI,(.dat (.list .str))])],[(.tmp 0 false [dO])],dialtonelaw22_few⟩)::cons8
theorem cons3_ok:ConL Try.prog cons3:=⟨con8,cons8_ok⟩
theorem con3:ConOk Try.prog 3 ⟨[(.tmp 0 true [dI,dI,dI,dI]),(.tmp 1 true [dS,dS,dI,dO,(.dat (.list (.pair .str (.pair uI6 uI6)))),dI,dS,dI,(.dat (.list .str))])],[(.tmp 0 false [dO])],dialtonelaw22_RegistrarForms⟩ :=
 tree_ok (plan:=planOf plan3) (eg:=egNo) KK tabL_ok (conOf_ok cons3_ok) Try.func3 (by kernel_rfl) (by kernel_rfl) 10000 (fun a r h=>Eq.trans (show _=dialtonelaw22_RegistrarForms a from by kernel_rfl) h)
end Go.Proofs.Ytlaccfegaoaakaa

set_option maxRecDepth 100000
namespace Go.Proofs.Ytlaccfegaoaakaa
open Go.RowKit
abbrev Tx:=List UInt8
abbrev Ct:=Tx×(Int×Int)
noncomputable def fkB {γ:Type} (x16:Ct) (x20:List Ct):Int→Option (Int ⊕ (Unit ⊕ (Int ⊕ γ))) :=
(fun v21 =>
 bif (decide (v21<(((List.length x20):Nat):Int))) then
 bif (decide (((0:Int)≤v21)∧(v21<(((List.length x20):Nat):Int)))) then
 bindO x20[(Int.toNat v21)]? fun x22 =>
 bif (decide (x22.1=x16.1)) then
 outO (outO (some (Sum.inl v21)))
 else
 some (Sum.inl (Go.IntKind.wrap .i64 (v21+(1:Int))))
 else none
 else
 outO (some (Sum.inl ())))
noncomputable def fcB (a5:List Ct):Int→Option (Int ⊕ (Unit ⊕ Bool)) :=
(fun v15 =>
 bif (decide (v15<(((List.length a5):Nat):Int))) then
 bif (decide (((0:Int)≤v15)∧(v15<(((List.length a5):Nat):Int)))) then
 bindO a5[(Int.toNat v15)]? fun x16 =>
 joinO (bindO (registrar_within ((((List.length x16.1):Nat):Int),((1:Int),(1000:Int)))) fun x17 =>
 bif (!x17) then
 outO (outO (outO (some Bool.false)))
 else
 bindO (registrar_within (x16.2.1,((0:Int),(1000:Int)))) fun x18 =>
 bif (!x18) then
 outO (outO (outO (some Bool.false)))
 else
 bindO (registrar_within (x16.2.2,((-1:Int),(2147483647:Int)))) fun x19 =>
 bif (!x19) then
 outO (outO (outO (some Bool.false)))
 else
 some (Sum.inl ())) fun _ =>
 bif (decide (((0:Int)≤v15)∧(v15≤(((List.length a5):Nat):Int)))) then
 bindO (some (List.take (Int.toNat v15) a5)) fun x20 =>
 joinO (joinO (loopO (fkB x16 x20) (0:Int)) fun _ =>
 some (Sum.inl (-1:Int))) fun v24 =>
 bif (decide (v24≥(0:Int))) then
 outO (outO (some Bool.false))
 else
 some (Sum.inl (Go.IntKind.wrap .i64 (v15+(1:Int))))
 else none
 else none
 else
 outO (some (Sum.inl ())))
noncomputable def fpB {γ:Type} (a9:List Tx):Int→Option (Int ⊕ (Unit ⊕ (Int ⊕ γ))) :=
(fun v26 =>
 bif (decide (v26<(((List.length a9):Nat):Int))) then
 bif (decide (((0:Int)≤v26)∧(v26<(((List.length a9):Nat):Int)))) then
 bindO a9[(Int.toNat v26)]? fun x27 =>
 bindO (registrar_within ((((List.length x27):Nat):Int),((1:Int),(1000:Int)))) fun x28 =>
 bif (!x28) then
 outO (outO (some (Sum.inl v26)))
 else
 some (Sum.inl (Go.IntKind.wrap .i64 (v26+(1:Int))))
 else none
 else
 outO (some (Sum.inl ())))
theorem formedP_eq (a1 a2:Tx) (a3:Int) (a4:Bool) (a5:List Ct) (a6:Int) (a7:Tx) (a8:Int) (a9:List Tx):registrar_Formed (a1,(a2,(a3,(a4,(a5,(a6,(a7,(a8,a9)))))))) =
 joinO (bindO (registrar_within ((((List.length a1):Nat):Int),((1:Int),(255:Int)))) fun x10 =>
  bif (!x10) then
   outO (some Bool.false)
  else
   bindO (registrar_within ((((List.length a2):Nat):Int),((1:Int),(255:Int)))) fun x11 =>
   bif (!x11) then
    outO (some Bool.false)
   else
    bindO (registrar_within (a3,((0:Int),(2147483647:Int)))) fun x12 =>
    bif (!x12) then
     outO (some Bool.false)
    else
     some (Sum.inl ())) fun _ =>
 joinO (bindO (registrar_within (a6,((-1:Int),(2147483647:Int)))) fun x13 =>
  bif (!x13) then
   outO (some Bool.false)
  else
   bif (decide ((((List.length a5):Nat):Int) > (20:Int))) then
    outO (some Bool.false)
   else
    bif (decide ((((List.length a9):Nat):Int) > (10:Int))) then
     outO (some Bool.false)
    else
     some (Sum.inl ())) fun _ =>
 joinO (bif a4 then
  bif (decide ((((List.length a5):Nat):Int) > (0:Int))) then
   outO (some Bool.false)
  else
   bif (decide (a6≠(0:Int))) then
    outO (some Bool.false)
   else
    some (Sum.inl ())
  else
   some (Sum.inl ())) fun _ =>
 bif (decide ((((List.length a7):Nat):Int) > (255:Int))) then
  some Bool.false
 else
  bindO (registrar_within (a8,((0:Int),(2147483647:Int)))) fun x14 =>
  bif (!x14) then
   some Bool.false
  else
   joinO (bif (decide (a8≠(0:Int))) then
    bif (decide (a7=([]:List UInt8))) then
     outO (some Bool.false)
    else
     bif (decide ((((List.length a5):Nat):Int) > (1:Int))) then
      outO (some Bool.false)
     else
      some (Sum.inl ())
    else
     some (Sum.inl ())) fun _ =>
   joinO (loopO (fcB a5) (0:Int)) fun _ =>
   joinO (joinO (loopO (fpB a9) (0:Int)) fun _ =>
    some (Sum.inl (-1:Int))) fun v30 =>
   some (!(decide (v30≥(0:Int)))):=rfl
noncomputable def rkB {γ:Type} (a5:List Ct) (x11:Ct) (v10:Int):Int→Option (Int ⊕ (Int ⊕ (γ ⊕ (Unit ⊕ Bool)))) :=
(fun v15 =>
 bif (decide (v15<v10)) then
 bif (decide (((0:Int)≤v15)∧(v15<(((List.length a5):Nat):Int)))) then
 bindO a5[(Int.toNat v15)]? fun x16 =>
 bif (decide (x16.1=x11.1)) then
 outO (outO (outO (outO (some Bool.false))))
 else
 some (Sum.inl (Go.IntKind.wrap .i64 (v15+(1:Int))))
 else none
 else
 outO (some (Sum.inl v15)))
noncomputable def rcB (a5:List Ct):Int→Option (Int ⊕ (Unit ⊕ Bool)) :=
(fun v10 =>
 bif (decide (v10<(((List.length a5):Nat):Int))) then
 joinO (bif (decide (((0:Int)≤v10)∧(v10<(((List.length a5):Nat):Int)))) then
 bindO a5[(Int.toNat v10)]? fun x11 =>
 joinO (bindO (dialtoneref22_within ((((List.length x11.1):Nat):Int),((1:Int),(1000:Int)))) fun x12 =>
 bif (!x12) then
 outO (outO (outO (outO (some Bool.false))))
 else
 bindO (dialtoneref22_within (x11.2.1,((0:Int),(1000:Int)))) fun x13 =>
 bif (!x13) then
 outO (outO (outO (outO (some Bool.false))))
 else
 bindO (dialtoneref22_within (x11.2.2,((-1:Int),(2147483647:Int)))) fun x14 =>
 bif (!x14) then
 outO (outO (outO (outO (some Bool.false))))
 else
 some (Sum.inl ())) fun _ =>
 loopO (rkB a5 x11 v10) (0:Int)
 else none) fun v18 =>
 some (Sum.inl (Go.IntKind.wrap .i64 (v10+(1:Int))))
 else
 outO (some (Sum.inl ())))
theorem contacts_eq (a1 a2:Tx) (a3:Int) (a4:Bool) (a5:List Ct) (a6:Int) (a7:Tx) (a8:Int) (a9:List Tx):dialtoneref22_contacts (a1,(a2,(a3,(a4,(a5,(a6,(a7,(a8,a9)))))))) =
 joinO (bif (decide ((((List.length a5):Nat):Int) > (20:Int))) then
  outO (some Bool.false)
  else
   bif a4 then
    bif (decide ((((List.length a5):Nat):Int)≠(0:Int))) then
     outO (some Bool.false)
    else
     bif (decide (a6≠(0:Int))) then
      outO (some Bool.false)
     else
      some (Sum.inl ())
   else
    some (Sum.inl ())) fun _ =>
 joinO (loopO (rcB a5) (0:Int)) fun _ =>
 some Bool.true:=rfl
noncomputable def rpB (a9:List Tx):Int→Option (Int ⊕ (Unit ⊕ Bool)) :=
(fun v16 =>
 bif (decide (v16<(((List.length a9):Nat):Int))) then
 bif (decide (((0:Int)≤v16)∧(v16<(((List.length a9):Nat):Int)))) then
 bindO a9[(Int.toNat v16)]? fun x17 =>
 bindO (dialtoneref22_within ((((List.length x17):Nat):Int),((1:Int),(1000:Int)))) fun x18 =>
 bif (!x18) then
 outO (outO (some Bool.false))
 else
 some (Sum.inl (Go.IntKind.wrap .i64 (v16+(1:Int))))
 else none
 else
 outO (some (Sum.inl ())))
theorem formedR_eq (a1 a2:Tx) (a3:Int) (a4:Bool) (a5:List Ct) (a6:Int) (a7:Tx) (a8:Int) (a9:List Tx):dialtoneref22_Formed (a1,(a2,(a3,(a4,(a5,(a6,(a7,(a8,a9)))))))) =
 joinO (bindO (dialtoneref22_within ((((List.length a1):Nat):Int),((1:Int),(255:Int)))) fun x10 =>
  bif (!x10) then
   outO (some Bool.false)
  else
   bindO (dialtoneref22_within ((((List.length a2):Nat):Int),((1:Int),(255:Int)))) fun x11 =>
   bif (!x11) then
    outO (some Bool.false)
   else
    bindO (dialtoneref22_within (a3,((0:Int),(2147483647:Int)))) fun x12 =>
    bif (!x12) then
     outO (some Bool.false)
    else
     bindO (dialtoneref22_within (a6,((-1:Int),(2147483647:Int)))) fun x13 =>
     bif (!x13) then
      outO (some Bool.false)
     else
      some (Sum.inl ())) fun _ =>
 joinO (bindO (dialtoneref22_contacts (a1,(a2,(a3,(a4,(a5,(a6,(a7,(a8,a9))))))))) fun x14 =>
  bif (!x14) then
   outO (some Bool.false)
  else
   bif (decide ((((List.length a7):Nat):Int) > (255:Int))) then
    outO (some Bool.false)
   else
    bindO (dialtoneref22_within (a8,((0:Int),(2147483647:Int)))) fun x15 =>
    bif (!x15) then
     outO (some Bool.false)
    else
     some (Sum.inl ())) fun _ =>
 joinO (bif (decide (a8≠(0:Int))) then
  bif (decide ((((List.length a7):Nat):Int)=(0:Int))) then
   outO (some Bool.false)
  else
   bif (decide ((((List.length a5):Nat):Int) > (1:Int))) then
    outO (some Bool.false)
   else
    bif (decide ((((List.length a9):Nat):Int) > (10:Int))) then
     outO (some Bool.false)
    else
     some (Sum.inl ())
  else
   bif (decide ((((List.length a9):Nat):Int) > (10:Int))) then
    outO (some Bool.false)
   else
    some (Sum.inl ())) fun _ =>
 joinO (loopO (rpB a9) (0:Int)) fun _ =>
 some Bool.true:=rfl
noncomputable def fwB (a5:List Ct):Int→Option (Int ⊕ (Unit ⊕ Bool)) :=
(fun v10 =>
 bif (decide (v10<(((List.length a5):Nat):Int))) then
 bif (decide (((0:Int)≤v10)∧(v10<(((List.length a5):Nat):Int)))) then
 bindO a5[(Int.toNat v10)]? fun x11 =>
 bif (decide ((((List.length x11.1):Nat):Int) > (2000:Int))) then
 outO (outO (some Bool.false))
 else
 some (Sum.inl (Go.IntKind.wrap .i64 (v10+(1:Int))))
 else none
 else
 outO (some (Sum.inl ())))
noncomputable def fwB2 (a9:List Tx):Int→Option (Int ⊕ (Unit ⊕ Bool)) :=
(fun v13 =>
 bif (decide (v13<(((List.length a9):Nat):Int))) then
 bif (decide (((0:Int)≤v13)∧(v13<(((List.length a9):Nat):Int)))) then
 bindO a9[(Int.toNat v13)]? fun x14 =>
 bif (decide ((((List.length x14):Nat):Int) > (2000:Int))) then
 outO (outO (some Bool.false))
 else
 some (Sum.inl (Go.IntKind.wrap .i64 (v13+(1:Int))))
 else none
 else
 outO (some (Sum.inl ())))
theorem few_eq (a1 a2:Tx) (a3:Int) (a4:Bool) (a5:List Ct) (a6:Int) (a7:Tx) (a8:Int) (a9:List Tx):dialtonelaw22_few (a1,(a2,(a3,(a4,(a5,(a6,(a7,(a8,a9)))))))) =
 joinO (bif (decide ((((List.length a5):Nat):Int) > (30:Int))) then
  outO (some Bool.false)
  else
   bif (decide ((((List.length a9):Nat):Int) > (30:Int))) then
    outO (some Bool.false)
   else
    bif (decide ((((List.length a1):Nat):Int) > (2000:Int))) then
     outO (some Bool.false)
    else
     bif (decide ((((List.length a2):Nat):Int) > (2000:Int))) then
      outO (some Bool.false)
     else
      bif (decide ((((List.length a7):Nat):Int) > (2000:Int))) then
       outO (some Bool.false)
      else
       some (Sum.inl ())) fun _ =>
 joinO (loopO (fwB a5) (0:Int)) fun _ =>
 joinO (loopO (fwB2 a9) (0:Int)) fun _ =>
 some Bool.true:=rfl
theorem Is.and {γ:Type} {k:γ→Option Bool} {P Q:Prop} (x:Option (γ ⊕ Bool)) (h:(P∧∃g,x=Option.some (.inl g)∧Is (k g) Q)∨(¬P∧x=Option.some (.inr false))):Is (joinO x k) (P∧Q):=by
 rcases h with ⟨h,g,e,hp⟩ | ⟨h,e⟩
 ·rw [e]
  show Is (k g) _
  rcases hp with ⟨q,e'⟩ | ⟨q,e'⟩
  ·exact .inl ⟨⟨h,q⟩,e'⟩
  ·exact .inr ⟨fun k=>q k.2,e'⟩
 ·rw [e]
  exact .inr ⟨fun q=>h q.1,rfl⟩
theorem within_b {β:Type} (a b c:Int) (f:Bool→Option β):bindO (registrar_within (a,(b,c))) f=f (decide (b≤a∧a≤c)):=by
 have e:registrar_within (a,(b,c))=bif decide (a≥b) then some (decide (a≤c)) else some false:=rfl
 rw [e,cond_ite]
 by_cases h:b≤a
 ·rw [if_pos (show a≥b from h)]
  simp [h,bindO_some]
 ·rw [if_neg (show ¬a≥b from h)]
  simp [h,bindO_some]
theorem withinR_b {β:Type} (a b c:Int) (f:Bool→Option β):bindO (dialtoneref22_within (a,(b,c))) f=f (decide (b≤a∧a≤c)):=within_b a b c f
theorem loop_all0 {body:Int→Option (Int ⊕ (Unit ⊕ Bool))} (n:Nat) (ok:Nat→Prop) (h1:∀i:Nat,i<n→ok i→body (i:Int)=some (.inl ((i+1:Nat):Int))) (h2:∀i:Nat,i<n→¬ok i→body (i:Int)=some (.inr (.inr false))) (h3:body (n:Int)=some (.inr (.inl ()))) :
 ((∀i,i<n→ok i)∧loopO body (0:Int)=some (.inl ()))∨(¬(∀i,i<n→ok i)∧loopO body (0:Int)=some (.inr false)):=by
 have hs:=loopO_search (body:=body) (fun i=>(i:Int)) n (fun i=>¬ok i) (r0 := .inl ()) (r1 := .inr false) (x:=0) rfl (fun i hi hb=>h1 i hi (Classical.not_not.1 hb)) h2 h3
 rcases hs with ⟨⟨i,hi,hb⟩,e⟩ | ⟨hn,e⟩
 ·exact .inr ⟨fun h=>hb (h i hi),e⟩
 ·exact .inl ⟨fun i hi=>Classical.byContradiction fun h=>hn ⟨i,hi,h⟩,e⟩
abbrev c0:Ct:=([],(0,0))
abbrev NO (n:Int):Prop := -1≤n∧n≤2147483647
abbrev NN (n:Int):Prop:=0≤n∧n≤2147483647
abbrev Ln (n:Nat) (b:Int):Prop:=1≤(n:Int)∧(n:Int)≤b
abbrev CW (x:Ct):Prop:=Ln x.1.length 1000∧(0≤x.2.1∧x.2.1≤1000)∧NO x.2.2
def COK (l:List Ct) (i:Nat):Prop:=CW (l.getD i c0)∧∀k,k<i→(l.getD k c0).1≠(l.getD i c0).1
abbrev POK (l:List Tx) (i:Nat):Prop:=Ln (l.getD i []).length 1000
theorem fk_j {γ:Type} (l:List Ct) {i:Nat} (hi:i<l.length) (hl:l.length≤1000) :
 (¬(∀k,k<i→(l.getD k c0).1≠(l.getD i c0).1)∧∃k:Nat,loopO (fkB (γ:=γ) (l.getD i c0) (l.take i)) (0:Int)=some (.inr (.inl (k:Int))))∨((∀k,k<i→(l.getD k c0).1≠(l.getD i c0).1)∧loopO (fkB (γ:=γ) (l.getD i c0) (l.take i)) (0:Int)=some (.inl ())):=by
 have ht:(l.take i).length=i:=by rw [List.length_take];omega
 have hg:∀k,k<i→(l.take i).getD k c0=l.getD k c0:=fun k hk=>by
  rw [List.getD_eq_getElem?_getD,List.getD_eq_getElem?_getD,List.getElem?_take,if_pos hk]
 rcases loop_first (body:=fkB (γ:=γ) (l.getD i c0) (l.take i)) i (fun k=>(l.getD k c0).1=(l.getD i c0).1) (fun k => .inr (.inl (k:Int))) (.inl ())
  (fun k hk hb=>by
    obtain ⟨x,hx,hxb⟩:=get_at c0 (show k<(l.take i).length by omega)
    rw [hg k hk] at hx
    rw [hx] at hb
    have hn:((k:Int)+1)=((k+1:Nat):Int):=rfl
    unfold fkB
    simp (disch:=(first | omega | (simp only [LNl];omega))) only [↓SDl,SDr,if_pos,if_neg,↓hxb,wrap_i64',hn,ht,hb,decide_false])
  (fun k hk hb=>by
    obtain ⟨x,hx,hxb⟩:=get_at c0 (show k<(l.take i).length by omega)
    rw [hg k hk] at hx
    rw [hx] at hb
    unfold fkB
    simp (disch:=(first | omega | (simp only [LNl];omega))) only [↓SDl,SDr,if_pos,if_neg,↓hxb,ht,hb,decide_true])
  (by unfold fkB;simp (disch:=(first | omega | (simp only [LNl];omega))) only [↓SDl,SDr,if_neg,ht]) with ⟨k,k1,k2,_,e⟩ | ⟨h,e⟩
 ·exact .inl ⟨fun g=>g k k1 k2,k,e⟩
 ·exact .inr ⟨h,e⟩
theorem fc_j (l:List Ct) (hl:l.length≤1000):((∀i,i<l.length→COK l i)∧loopO (fcB l) (0:Int)=some (.inl ()))∨(¬(∀i,i<l.length→COK l i)∧loopO (fcB l) (0:Int)=some (.inr false)):=by
 refine loop_all0 (body:=fcB l) l.length (COK l) (fun i hi hb => ?_) (fun i hi hb => ?_) ?_
 ·obtain ⟨x,hx,hxb⟩:=get_at c0 hi
  obtain ⟨h1,h2⟩:=hb
  have hn:((i:Int)+1)=((i+1:Nat):Int):=rfl
  rcases fk_j (γ:=Int ⊕ (Unit ⊕ Bool)) l hi hl with ⟨k,_⟩ | ⟨_,e⟩
  ·exact (k h2).elim
  ·rw [hx] at h1 e
   unfold fcB
   simp (disch:=(first | omega | (simp only [LNl];omega))) only [↓SDl,SDr,if_pos,if_neg,↓hxb,↓within_b,h1.1,h1.2.1,h1.2.2,and_self,decide_true,Int.toNat_natCast,e,wrap_i64',hn]
 ·obtain ⟨x,hx,hxb⟩:=get_at c0 hi
  by_cases h1:CW x
  ·have h2:¬ ∀k,k<i→(l.getD k c0).1≠(l.getD i c0).1:=fun k=>hb ⟨by rw [hx];exact h1,k⟩
   rcases fk_j (γ:=Int ⊕ (Unit ⊕ Bool)) l hi hl with ⟨_,k,e⟩ | ⟨k,_⟩
   ·rw [hx] at e
    unfold fcB
    simp (disch:=(first | omega | (simp only [LNl];omega))) only [↓SDl,SDr,if_pos,if_neg,↓hxb,↓within_b,h1.1,h1.2.1,h1.2.2,and_self,decide_true,Int.toNat_natCast,e]
   ·exact (h2 k).elim
  ·unfold fcB
   by_cases k1:Ln x.1.length 1000
   ·by_cases k2:0≤x.2.1∧x.2.1≤1000
    ·have k3:¬NO x.2.2:=fun k=>h1 ⟨k1,k2,k⟩
     simp (disch:=(first | omega | (simp only [LNl];omega))) only [↓SDl,SDr,if_pos,if_neg,↓hxb,↓within_b,k1,k2,k3,and_self,decide_true,decide_false]
    ·simp (disch:=(first | omega | (simp only [LNl];omega))) only [↓SDl,SDr,if_pos,if_neg,↓hxb,↓within_b,k1,k2,and_self,decide_true,decide_false]
   ·simp (disch:=(first | omega | (simp only [LNl];omega))) only [↓SDl,SDr,if_pos,if_neg,↓hxb,↓within_b,k1,decide_false]
 ·unfold fcB
  simp (disch:=(first | omega | (simp only [LNl];omega))) only [↓SDl,SDr,if_neg]
theorem rk_j {γ:Type} (l:List Ct) {i:Nat} (hi:i<l.length) (hl:l.length≤1000) :
 (¬(∀k,k<i→(l.getD k c0).1≠(l.getD i c0).1)∧loopO (rkB (γ:=γ) l (l.getD i c0) (i:Int)) (0:Int)=some (.inr (.inr (.inr false))))∨((∀k,k<i→(l.getD k c0).1≠(l.getD i c0).1)∧loopO (rkB (γ:=γ) l (l.getD i c0) (i:Int)) (0:Int)=some (.inl (i:Int))):=by
 rcases loop_first (body:=rkB (γ:=γ) l (l.getD i c0) (i:Int)) i (fun k=>(l.getD k c0).1=(l.getD i c0).1) (fun _ => .inr (.inr (.inr false))) (.inl (i:Int))
  (fun k hk hb=>by
    obtain ⟨x,hx,hxb⟩:=get_at c0 (show k<l.length by omega)
    rw [hx] at hb
    have hn:((k:Int)+1)=((k+1:Nat):Int):=rfl
    unfold rkB
    simp (disch:=(first | omega | (simp only [LNl];omega))) only [↓SDl,SDr,if_pos,if_neg,↓hxb,wrap_i64',hn,hb,decide_false])
  (fun k hk hb=>by
    obtain ⟨x,hx,hxb⟩:=get_at c0 (show k<l.length by omega)
    rw [hx] at hb
    unfold rkB
    simp (disch:=(first | omega | (simp only [LNl];omega))) only [↓SDl,SDr,if_pos,if_neg,↓hxb,hb,decide_true])
  (by unfold rkB;simp (disch:=(first | omega | (simp only [LNl];omega))) only [↓SDl,SDr,if_neg]) with ⟨k,k1,k2,_,e⟩ | ⟨h,e⟩
 ·exact .inl ⟨fun g=>g k k1 k2,e⟩
 ·exact .inr ⟨h,e⟩
theorem rc_j (l:List Ct) (hl:l.length≤1000):((∀i,i<l.length→COK l i)∧loopO (rcB l) (0:Int)=some (.inl ()))∨(¬(∀i,i<l.length→COK l i)∧loopO (rcB l) (0:Int)=some (.inr false)):=by
 refine loop_all0 (body:=rcB l) l.length (COK l) (fun i hi hb => ?_) (fun i hi hb => ?_) ?_
 ·obtain ⟨x,hx,hxb⟩:=get_at c0 hi
  obtain ⟨h1,h2⟩:=hb
  have hn:((i:Int)+1)=((i+1:Nat):Int):=rfl
  rcases rk_j (γ:=Int) l hi hl with ⟨k,_⟩ | ⟨_,e⟩
  ·exact (k h2).elim
  ·rw [hx] at h1 e
   unfold rcB
   simp (disch:=(first | omega | (simp only [LNl];omega))) only [↓SDl,SDr,if_pos,if_neg,↓hxb,↓withinR_b,h1.1,h1.2.1,h1.2.2,and_self,decide_true,e,wrap_i64',hn]
 ·obtain ⟨x,hx,hxb⟩:=get_at c0 hi
  by_cases h1:CW x
  ·have h2:¬ ∀k,k<i→(l.getD k c0).1≠(l.getD i c0).1:=fun k=>hb ⟨by rw [hx];exact h1,k⟩
   rcases rk_j (γ:=Int) l hi hl with ⟨_,e⟩ | ⟨k,_⟩
   ·rw [hx] at e
    unfold rcB
    simp (disch:=(first | omega | (simp only [LNl];omega))) only [↓SDl,SDr,if_pos,if_neg,↓hxb,↓withinR_b,h1.1,h1.2.1,h1.2.2,and_self,decide_true,e]
   ·exact (h2 k).elim
  ·unfold rcB
   by_cases k1:Ln x.1.length 1000
   ·by_cases k2:0≤x.2.1∧x.2.1≤1000
    ·have k3:¬NO x.2.2:=fun k=>h1 ⟨k1,k2,k⟩
     simp (disch:=(first | omega | (simp only [LNl];omega))) only [↓SDl,SDr,if_pos,if_neg,↓hxb,↓withinR_b,k1,k2,k3,and_self,decide_true,decide_false]
    ·simp (disch:=(first | omega | (simp only [LNl];omega))) only [↓SDl,SDr,if_pos,if_neg,↓hxb,↓withinR_b,k1,k2,and_self,decide_true,decide_false]
   ·simp (disch:=(first | omega | (simp only [LNl];omega))) only [↓SDl,SDr,if_pos,if_neg,↓hxb,↓withinR_b,k1,decide_false]
 ·unfold rcB
  simp (disch:=(first | omega | (simp only [LNl];omega))) only [↓SDl,SDr,if_neg]
theorem fp_j {γ:Type} (l:List Tx) (hl:l.length≤1000):((∀i,i<l.length→POK l i)∧loopO (fpB (γ:=γ) l) (0:Int)=some (.inl ()))∨(¬(∀i,i<l.length→POK l i)∧∃k:Nat,loopO (fpB (γ:=γ) l) (0:Int)=some (.inr (.inl (k:Int)))):=by
 rcases loop_first (body:=fpB (γ:=γ) l) l.length (fun k=>¬POK l k) (fun k => .inr (.inl (k:Int))) (.inl ())
  (fun k hk hb=>by
    obtain ⟨x,hx,hxb⟩:=get_at ([]:Tx) hk
    have hb:Ln (l.getD k []).length 1000:=Classical.not_not.1 hb
    rw [hx] at hb
    have hn:((k:Int)+1)=((k+1:Nat):Int):=rfl
    unfold fpB
    simp (disch:=(first | omega | (simp only [LNl];omega))) only [↓SDl,SDr,if_pos,if_neg,↓hxb,↓within_b,wrap_i64',hn,hb,and_self,decide_true])
  (fun k hk hb=>by
    obtain ⟨x,hx,hxb⟩:=get_at ([]:Tx) hk
    have hb:¬Ln (l.getD k []).length 1000:=hb
    rw [hx] at hb
    unfold fpB
    simp (disch:=(first | omega | (simp only [LNl];omega))) only [↓SDl,SDr,if_pos,if_neg,↓hxb,↓within_b,hb,decide_false])
  (by unfold fpB;simp (disch:=(first | omega | (simp only [LNl];omega))) only [↓SDl,SDr,if_neg]) with ⟨k,k1,k2,_,e⟩ | ⟨h,e⟩
 ·exact .inr ⟨fun g=>k2 (g k k1),k,e⟩
 ·exact .inl ⟨fun i hi=>Classical.not_not.1 (h i hi),e⟩
theorem rp_j (l:List Tx) (hl:l.length≤1000):((∀i,i<l.length→POK l i)∧loopO (rpB l) (0:Int)=some (.inl ()))∨(¬(∀i,i<l.length→POK l i)∧loopO (rpB l) (0:Int)=some (.inr false)):=by
 refine loop_all0 (body:=rpB l) l.length (POK l) (fun i hi hb => ?_) (fun i hi hb => ?_) ?_
 ·obtain ⟨x,hx,hxb⟩:=get_at ([]:Tx) hi
  have hb:Ln (l.getD i []).length 1000:=hb
  rw [hx] at hb
  have hn:((i:Int)+1)=((i+1:Nat):Int):=rfl
  unfold rpB
  simp (disch:=(first | omega | (simp only [LNl];omega))) only [↓SDl,SDr,if_pos,if_neg,↓hxb,↓withinR_b,hb,and_self,decide_true,wrap_i64',hn]
 ·obtain ⟨x,hx,hxb⟩:=get_at ([]:Tx) hi
  have hb:¬Ln (l.getD i []).length 1000:=hb
  rw [hx] at hb
  unfold rpB
  simp (disch:=(first | omega | (simp only [LNl];omega))) only [↓SDl,SDr,if_pos,if_neg,↓hxb,↓withinR_b,hb,decide_false]
 ·unfold rpB
  simp (disch:=(first | omega | (simp only [LNl];omega))) only [↓SDl,SDr,if_neg]
abbrev F1 (a1 a2:Tx) (a3:Int):Prop:=Ln a1.length 255∧Ln a2.length 255∧NN a3
abbrev F3 (a4:Bool) (a5:List Ct) (a6:Int):Prop:=a4=true→a5.length=0∧a6=0
abbrev F5 (a5:List Ct) (a7:Tx) (a8:Int):Prop:=a8≠0→a7≠[]∧a5.length≤1
def FM (a1 a2:Tx) (a3:Int) (a4:Bool) (a5:List Ct) (a6:Int) (a7:Tx) (a8:Int) (a9:List Tx):Prop :=
 F1 a1 a2 a3∧(NO a6∧a5.length≤20∧a9.length≤10)∧F3 a4 a5 a6∧a7.length≤255∧NN a8∧F5 a5 a7 a8∧(∀i,i<a5.length→COK a5 i)∧(∀i,i<a9.length→POK a9 i)
theorem formedP_j (a1 a2:Tx) (a3:Int) (a4:Bool) (a5:List Ct) (a6:Int) (a7:Tx) (a8:Int) (a9:List Tx):Is (registrar_Formed (a1,(a2,(a3,(a4,(a5,(a6,(a7,(a8,a9))))))))) (FM a1 a2 a3 a4 a5 a6 a7 a8 a9):=by
 rw [formedP_eq]
 refine Is.and _ ?_
 by_cases h1:F1 a1 a2 a3
 ·refine .inl ⟨h1,(),by simp only [↓SDl,SDr,↓within_b,h1.1,h1.2.1,h1.2.2,and_self,decide_true],?_⟩
  refine Is.and _ ?_
  by_cases h2:NO a6∧a5.length≤20∧a9.length≤10
  ·refine .inl ⟨h2,(),by simp (disch:=(first | omega | (simp only [LNl];omega))) only [↓SDl,SDr,↓within_b,h2.1,and_self,decide_true,if_neg],?_⟩
   refine Is.and _ ?_
   by_cases h3:F3 a4 a5 a6
   ·refine .inl ⟨h3,(),?_,?_⟩
    ·cases a4 with
     | false=>rfl
     | true =>
       obtain ⟨k1,k2⟩:=h3 rfl
       simp (disch:=(first | omega | (simp only [LNl];omega))) only [↓SDl,SDr,if_neg,k1,k2,ne_eq,not_true,decide_false]
    ·by_cases h4:a7.length≤255
     ·by_cases h5:NN a8
      ·simp (disch:=(first | omega | (simp only [LNl];omega))) only [↓SDl,SDr,↓within_b,h5,and_self,decide_true,if_neg]
       have e:(a7.length≤255∧NN a8∧F5 a5 a7 a8∧(∀i,i<a5.length→COK a5 i)∧(∀i,i<a9.length→POK a9 i))=(F5 a5 a7 a8∧(∀i,i<a5.length→COK a5 i)∧(∀i,i<a9.length→POK a9 i)):=propext ⟨fun h=>h.2.2,fun h=>⟨h4,h5,h⟩⟩
       rw [e]
       refine Is.and _ ?_
       by_cases h6:F5 a5 a7 a8
       ·refine .inl ⟨h6,(),?_,?_⟩
        ·by_cases k:a8=0
         ·simp only [↓SDl,SDr,k,ne_eq,not_true,decide_false]
         ·obtain ⟨k1,k2⟩:=h6 k
          simp (disch:=(first | omega | (simp only [LNl];omega))) only [↓SDl,SDr,k,k1,ne_eq,not_false_iff,decide_true,decide_false,if_neg,if_true,if_false]
        ·refine Is.and _ ?_
         rcases fc_j a5 (by omega) with ⟨h7,e7⟩ | ⟨h7,e7⟩
         ·refine .inl ⟨h7,(),e7,?_⟩
          rcases fp_j (γ:=Bool) a9 (by omega) with ⟨h8,e8⟩ | ⟨h8,k,e8⟩
          ·rw [e8];exact Is.t h8
          ·rw [e8]
           have k0:(k:Int)≥0:=by omega
           simp only [↓SDl,SDr,k0,decide_true]
           exact Is.f h8
         ·exact .inr ⟨h7,e7⟩
       ·refine .inr ⟨h6,?_⟩
        have k:a8≠0:=fun k=>h6 fun g=>(g k).elim
        by_cases k1:a7=[]
        ·simp only [↓SDl,SDr,k,k1,ne_eq,not_false_iff,decide_true]
        ·have k2:¬a5.length≤1:=fun k2=>h6 fun _=>⟨k1,k2⟩
         simp (disch:=(first | omega | (simp only [LNl];omega))) only [↓SDl,SDr,k,k1,ne_eq,not_false_iff,decide_true,decide_false,if_pos,if_true,if_false]
      ·simp (disch:=(first | omega | (simp only [LNl];omega))) only [↓SDl,SDr,↓within_b,h5,decide_false,if_neg]
       exact Is.f fun k=>absurd k.2.1 (by simp [h5])
     ·simp (disch:=(first | omega | (simp only [LNl];omega))) only [↓SDl,SDr,if_pos]
      exact Is.f fun k=>h4 k.1
   ·refine .inr ⟨h3,?_⟩
    cases a4 with
    | false=>exact (h3 fun g=>by cases g).elim
    | true =>
      by_cases k1:a5.length=0
      ·have k2:a6≠0:=fun k2=>h3 fun _=>⟨k1,k2⟩
       simp (disch:=(first | omega | (simp only [LNl];omega))) only [↓SDl,SDr,if_neg,if_pos,k1,k2,ne_eq,not_false_iff,decide_true,if_true]
      ·simp (disch:=(first | omega | (simp only [LNl];omega))) only [↓SDl,SDr,if_pos]
  ·refine .inr ⟨h2,?_⟩
   by_cases k1:NO a6
   ·by_cases k2:a5.length≤20
    ·have k3:¬a9.length≤10:=fun k=>h2 ⟨k1,k2,k⟩
     simp (disch:=(first | omega | (simp only [LNl];omega))) only [↓SDl,SDr,↓within_b,k1,and_self,decide_true,if_neg,if_pos]
    ·simp (disch:=(first | omega | (simp only [LNl];omega))) only [↓SDl,SDr,↓within_b,k1,and_self,decide_true,if_pos]
   ·simp (disch:=(first | omega | (simp only [LNl];omega))) only [↓SDl,SDr,↓within_b,k1,decide_false]
 ·refine .inr ⟨h1,?_⟩
  by_cases k1:Ln a1.length 255
  ·by_cases k2:Ln a2.length 255
   ·have k3:¬NN a3:=fun k=>h1 ⟨k1,k2,k⟩
    simp only [↓SDl,SDr,↓within_b,k1,k2,k3,and_self,decide_true,decide_false]
   ·simp only [↓SDl,SDr,↓within_b,k1,k2,and_self,decide_true,decide_false]
  ·simp only [↓SDl,SDr,↓within_b,k1,decide_false]
theorem contacts_j (a1 a2:Tx) (a3:Int) (a4:Bool) (a5:List Ct) (a6:Int) (a7:Tx) (a8:Int) (a9:List Tx):Is (dialtoneref22_contacts (a1,(a2,(a3,(a4,(a5,(a6,(a7,(a8,a9))))))))) ((a5.length≤20∧F3 a4 a5 a6)∧(∀i,i<a5.length→COK a5 i)):=by
 rw [contacts_eq]
 refine Is.and _ ?_
 by_cases h2:a5.length≤20
 ·by_cases h3:F3 a4 a5 a6
  ·refine .inl ⟨⟨h2,h3⟩,(),?_,?_⟩
   ·cases a4 with
    | false=>simp (disch:=(first | omega | (simp only [LNl];omega))) only [↓SDl,SDr,if_neg]
    | true =>
      obtain ⟨k1,k2⟩:=h3 rfl
      simp (disch:=(first | omega | (simp only [LNl];omega))) only [↓SDl,SDr,if_neg,k1,k2,ne_eq,not_true,decide_false]
   ·rcases rc_j a5 (by omega) with ⟨h7,e7⟩ | ⟨h7,e7⟩
    ·rw [e7];exact Is.t h7
    ·rw [e7];exact Is.f h7
  ·refine .inr ⟨fun k=>h3 k.2,?_⟩
   cases a4 with
   | false=>exact (h3 fun g=>by cases g).elim
   | true =>
     by_cases k1:a5.length=0
     ·have k2:a6≠0:=fun k2=>h3 fun _=>⟨k1,k2⟩
      simp (disch:=(first | omega | (simp only [LNl];omega))) only [↓SDl,SDr,if_neg,if_pos,k1,k2,ne_eq,not_true,not_false_iff,decide_true,decide_false,if_true,if_false]
     ·simp (disch:=(first | omega | (simp only [LNl];omega))) only [↓SDl,SDr,if_neg,if_pos,ne_eq]
 ·exact .inr ⟨fun k=>h2 k.1,by simp (disch:=(first | omega | (simp only [LNl];omega))) only [↓SDl,SDr,if_pos]⟩
theorem formedR_j (a1 a2:Tx) (a3:Int) (a4:Bool) (a5:List Ct) (a6:Int) (a7:Tx) (a8:Int) (a9:List Tx):Is (dialtoneref22_Formed (a1,(a2,(a3,(a4,(a5,(a6,(a7,(a8,a9))))))))) ((F1 a1 a2 a3∧NO a6)∧(((a5.length≤20∧F3 a4 a5 a6)∧(∀i,i<a5.length→COK a5 i))∧a7.length≤255∧NN a8)∧(F5 a5 a7 a8∧a9.length≤10)∧(∀i,i<a9.length→POK a9 i)):=by
 rw [formedR_eq]
 refine Is.and _ ?_
 by_cases h1:F1 a1 a2 a3
 ·by_cases h2:NO a6
  ·refine .inl ⟨⟨h1,h2⟩,(),by simp only [↓SDl,SDr,↓withinR_b,h1.1,h1.2.1,h1.2.2,h2,and_self,decide_true],?_⟩
   refine Is.and _ ?_
   rcases contacts_j a1 a2 a3 a4 a5 a6 a7 a8 a9 with ⟨hc,ec⟩ | ⟨hc,ec⟩
   ·by_cases h4:a7.length≤255
    ·by_cases h5:NN a8
     ·refine .inl ⟨⟨hc,h4,h5⟩,(),by simp (disch:=(first | omega | (simp only [LNl];omega))) only [↓SDl,SDr,ec,↓withinR_b,h5,and_self,decide_true,if_neg],?_⟩
      refine Is.and _ ?_
      by_cases h6:F5 a5 a7 a8
      ·by_cases h9:a9.length≤10
       ·refine .inl ⟨⟨h6,h9⟩,(),?_,?_⟩
        ·by_cases k:a8=0
         ·simp (disch:=(first | omega | (simp only [LNl];omega))) only [↓SDl,SDr,k,ne_eq,not_true,decide_false,if_neg]
         ·obtain ⟨k1,k2⟩:=h6 k
          have k1:¬((a7.length:Nat):Int)=0:=fun g=>k1 (List.length_eq_zero_iff.1 (by omega))
          simp (disch:=(first | omega | (simp only [LNl];omega))) only [↓SDl,SDr,k,k1,ne_eq,not_false_iff,decide_true,decide_false,if_neg,if_true,if_false]
        ·rcases rp_j a9 (by omega) with ⟨h8,e8⟩ | ⟨h8,e8⟩
         ·rw [e8];exact Is.t h8
         ·rw [e8];exact Is.f h8
       ·refine .inr ⟨fun k=>h9 k.2,?_⟩
        by_cases k:a8=0
        ·simp (disch:=(first | omega | (simp only [LNl];omega))) only [↓SDl,SDr,k,ne_eq,not_true,decide_false,if_pos]
        ·obtain ⟨k1,k2⟩:=h6 k
         have k1:¬((a7.length:Nat):Int)=0:=fun g=>k1 (List.length_eq_zero_iff.1 (by omega))
         simp (disch:=(first | omega | (simp only [LNl];omega))) only [↓SDl,SDr,k,k1,ne_eq,not_false_iff,decide_true,decide_false,if_neg,if_pos,if_true,if_false]
      ·refine .inr ⟨fun k=>h6 k.1,?_⟩
       have k:a8≠0:=fun k=>h6 fun g=>(g k).elim
       by_cases k1:a7=[]
       ·have k1:((a7.length:Nat):Int)=0:=by rw [k1];rfl
        simp only [↓SDl,SDr,k,k1,ne_eq,not_false_iff,decide_true]
       ·have k2:¬a5.length≤1:=fun k2=>h6 fun _=>⟨k1,k2⟩
        have k1:¬((a7.length:Nat):Int)=0:=fun g=>k1 (List.length_eq_zero_iff.1 (by omega))
        simp (disch:=(first | omega | (simp only [LNl];omega))) only [↓SDl,SDr,k,k1,ne_eq,not_false_iff,decide_true,decide_false,if_pos,if_true,if_false]
     ·exact .inr ⟨fun k=>h5 k.2.2,by simp (disch:=(first | omega | (simp only [LNl];omega))) only [↓SDl,SDr,ec,↓withinR_b,h5,decide_false,if_neg]⟩
    ·exact .inr ⟨fun k=>h4 k.2.1,by simp (disch:=(first | omega | (simp only [LNl];omega))) only [↓SDl,SDr,ec,if_pos]⟩
   ·exact .inr ⟨fun k=>hc k.1,by simp only [↓SDl,SDr,ec]⟩
  ·exact .inr ⟨fun k=>h2 k.2,by simp only [↓SDl,SDr,↓withinR_b,h1.1,h1.2.1,h1.2.2,h2,and_self,decide_true,decide_false]⟩
 ·refine .inr ⟨fun k=>h1 k.1,?_⟩
  by_cases k1:Ln a1.length 255
  ·by_cases k2:Ln a2.length 255
   ·have k3:¬NN a3:=fun k=>h1 ⟨k1,k2,k⟩
    simp only [↓SDl,SDr,↓withinR_b,k1,k2,k3,and_self,decide_true,decide_false]
   ·simp only [↓SDl,SDr,↓withinR_b,k1,k2,and_self,decide_true,decide_false]
  ·simp only [↓SDl,SDr,↓withinR_b,k1,decide_false]
theorem formed_same (a1 a2:Tx) (a3:Int) (a4:Bool) (a5:List Ct) (a6:Int) (a7:Tx) (a8:Int) (a9:List Tx):dialtoneref22_Formed (a1,(a2,(a3,(a4,(a5,(a6,(a7,(a8,a9))))))))=registrar_Formed (a1,(a2,(a3,(a4,(a5,(a6,(a7,(a8,a9)))))))):=by
 refine Is.eq (formedR_j a1 a2 a3 a4 a5 a6 a7 a8 a9) ?_
 have e:((F1 a1 a2 a3∧NO a6)∧(((a5.length≤20∧F3 a4 a5 a6)∧(∀i,i<a5.length→COK a5 i))∧a7.length≤255∧NN a8)∧(F5 a5 a7 a8∧a9.length≤10)∧(∀i,i<a9.length→POK a9 i))=FM a1 a2 a3 a4 a5 a6 a7 a8 a9 :=
  propext ⟨fun ⟨⟨x1,x2⟩,⟨⟨⟨x3,x4⟩,x5⟩,x6,x7⟩,⟨x8,x9⟩,x10⟩=>⟨x1,⟨x2,x3,x9⟩,x4,x6,x7,x8,x5,x10⟩,fun ⟨x1,⟨x2,x3,x9⟩,x4,x6,x7,x8,x5,x10⟩=>⟨⟨x1,x2⟩,⟨⟨⟨x3,x4⟩,x5⟩,x6,x7⟩,⟨x8,x9⟩,x10⟩⟩
 rw [e]
 exact formedP_j a1 a2 a3 a4 a5 a6 a7 a8 a9
theorem valid_same (a b c d:Int):∃v,registrar_Valid (a,(b,(c,d)))=some v∧dialtoneref22_Valid (a,(b,(c,d)))=some v:=by
 unfold registrar_Valid dialtoneref22_Valid
 by_cases h1:1≤a
 ·by_cases h2:a≤b
  ·by_cases h3:b≤c
   ·by_cases h4:c≤10000000
    ·by_cases h5:1≤d
     ·refine ⟨decide (d≤100),?_,?_⟩
      ·simp (disch:=omega) only [↓SDl,SDr,if_pos]
      ·simp (disch:=omega) only [↓SDl,SDr,if_pos,withinR_b,h5,true_and]
     ·refine ⟨false,?_,?_⟩
      ·simp (disch:=omega) only [↓SDl,SDr,if_pos,if_neg]
      ·simp (disch:=omega) only [↓SDl,SDr,if_pos,withinR_b,h5,false_and,decide_false]
    ·refine ⟨false,?_,?_⟩<;>simp (disch:=omega) only [↓SDl,SDr,if_pos,if_neg]
   ·refine ⟨false,?_,?_⟩<;>simp (disch:=omega) only [↓SDl,SDr,if_pos,if_neg]
  ·refine ⟨false,?_,?_⟩<;>simp (disch:=omega) only [↓SDl,SDr,if_pos,if_neg]
 ·refine ⟨false,?_,?_⟩<;>simp (disch:=omega) only [↓SDl,SDr,if_neg]
abbrev Sml (a1 a2:Tx) (a5:List Ct) (a7:Tx) (a9:List Tx):Prop:=a5.length≤30∧a9.length≤30∧a1.length≤2000∧a2.length≤2000∧a7.length≤2000
theorem few_j (a1 a2:Tx) (a3:Int) (a4:Bool) (a5:List Ct) (a6:Int) (a7:Tx) (a8:Int) (a9:List Tx):Is (dialtonelaw22_few (a1,(a2,(a3,(a4,(a5,(a6,(a7,(a8,a9))))))))) (Sml a1 a2 a5 a7 a9∧(∀i,i<a5.length→(a5.getD i c0).1.length≤2000)∧(∀i,i<a9.length→(a9.getD i []).length≤2000)):=by
 rw [few_eq]
 refine Is.and _ ?_
 by_cases h:Sml a1 a2 a5 a7 a9
 ·obtain ⟨h1,h2,h3,h4,h5⟩:=h
  refine .inl ⟨⟨h1,h2,h3,h4,h5⟩,(),by simp (disch:=(first | omega | (simp only [LNl];omega))) only [↓SDl,SDr,if_neg],?_⟩
  refine Is.and _ ?_
  rcases loop_all0 (body:=fwB a5) a5.length (fun i=>(a5.getD i c0).1.length≤2000)
   (fun i hi hb=>by
     obtain ⟨x,hx,hxb⟩:=get_at c0 hi
     rw [hx] at hb
     have hn:((i:Int)+1)=((i+1:Nat):Int):=rfl
     unfold fwB
     simp (disch:=(first | omega | (simp only [LNl];omega))) only [↓SDl,SDr,if_pos,if_neg,↓hxb,wrap_i64',hn])
   (fun i hi hb=>by
     obtain ⟨x,hx,hxb⟩:=get_at c0 hi
     rw [hx] at hb
     unfold fwB
     simp (disch:=(first | omega | (simp only [LNl];omega))) only [↓SDl,SDr,if_pos,↓hxb])
   (by unfold fwB;simp (disch:=(first | omega | (simp only [LNl];omega))) only [↓SDl,SDr,if_neg]) with ⟨h6,e⟩ | ⟨h6,e⟩
  ·refine .inl ⟨h6,(),e,?_⟩
   rcases loop_all0 (body:=fwB2 a9) a9.length (fun i=>(a9.getD i []).length≤2000)
    (fun i hi hb=>by
      obtain ⟨x,hx,hxb⟩:=get_at ([]:Tx) hi
      rw [hx] at hb
      have hn:((i:Int)+1)=((i+1:Nat):Int):=rfl
      unfold fwB2
      simp (disch:=(first | omega | (simp only [LNl];omega))) only [↓SDl,SDr,if_pos,if_neg,↓hxb,wrap_i64',hn])
    (fun i hi hb=>by
      obtain ⟨x,hx,hxb⟩:=get_at ([]:Tx) hi
      rw [hx] at hb
      unfold fwB2
      simp (disch:=(first | omega | (simp only [LNl];omega))) only [↓SDl,SDr,if_pos,↓hxb])
    (by unfold fwB2;simp (disch:=(first | omega | (simp only [LNl];omega))) only [↓SDl,SDr,if_neg]) with ⟨h7,e⟩ | ⟨h7,e⟩
   ·rw [e];exact Is.t h7
   ·rw [e];exact Is.f h7
  ·exact .inr ⟨h6,e⟩
 ·refine .inr ⟨h,?_⟩
  by_cases k1:a5.length≤30
  ·by_cases k2:a9.length≤30
   ·by_cases k3:a1.length≤2000
    ·by_cases k4:a2.length≤2000
     ·have k5:¬a7.length≤2000:=fun k=>h ⟨k1,k2,k3,k4,k⟩
      simp (disch:=(first | omega | (simp only [LNl];omega))) only [↓SDl,SDr,if_pos,if_neg]
     ·simp (disch:=(first | omega | (simp only [LNl];omega))) only [↓SDl,SDr,if_pos,if_neg]
    ·simp (disch:=(first | omega | (simp only [LNl];omega))) only [↓SDl,SDr,if_pos,if_neg]
   ·simp (disch:=(first | omega | (simp only [LNl];omega))) only [↓SDl,SDr,if_pos,if_neg]
  ·simp (disch:=(first | omega | (simp only [LNl];omega))) only [↓SDl,SDr,if_pos]
end Go.Proofs.Ytlaccfegaoaakaa

set_option maxRecDepth 100000
namespace Go.Proofs.Ytlaccfegaoaakaa
open Go.RowKit
def be (u:Int):Nat→List Int
 | 0=>[]
 | k+1=>be (u / 256) k++[u % 256]
def val (l:List Int):Int:=l.foldl (fun a x=>a*256+x) 0
abbrev By (l:List Int):Prop:=∀x∈l,0≤x∧x≤255
theorem be_len (u:Int) (k:Nat):(be u k).length=k:=by
 induction k generalizing u with
 | zero=>rfl
 | succ k ih=>rw [be,List.length_append,ih];rfl
theorem be_by (u:Int) (k:Nat):By (be u k):=by
 induction k generalizing u with
 | zero=>intro x hx;cases hx
 | succ k ih =>
   intro x hx
   rw [be] at hx
   rcases List.mem_append.1 hx with hx | hx
   ·exact ih _ x hx
   ·rw [List.mem_singleton] at hx;omega
theorem be_front (u:Int) (k:Nat):be u (k+1)=(u / 256 ^ k) % 256::be u k:=by
 induction k generalizing u with
 | zero=>simp [be]
 | succ k ih =>
   rw [be,ih,List.cons_append,Int.pow_succ,Int.mul_comm,←Int.ediv_ediv_of_nonneg (by decide)]
   rfl
theorem be_get (u:Int) (k n:Nat) (h:n<k):(be u k).getD n 0=(u / 256 ^ (k-1-n)) % 256:=by
 induction k generalizing n with
 | zero=>omega
 | succ k ih =>
   rw [be_front]
   cases n with
   | zero=>simp
   | succ n =>
     rw [List.getD_cons_succ,ih n (by omega)]
     congr 3
     omega
def tb (s:Tx):List Int:=s.map fun c=>((c.toNat:Nat):Int)
theorem tb_len (s:Tx):(tb s).length=s.length:=List.length_map _
theorem tb_by (s:Tx):By (tb s):=fun x hx=>by
 obtain ⟨c,_,rfl⟩:=List.mem_map.1 hx
 have:=c.toNat_lt
 omega
def et (s:Tx):List Int:=be (s.length:Int) 2++tb s
def u4 (n:Int):Int:=if n<0 then n+4294967296 else n
def ec (x:Ct):List Int:=et x.1++be x.2.1 2++be (u4 x.2.2) 4
def ENC (now:Int) (a1 a2:Tx) (a3:Int) (a4:Bool) (a5:List Ct) (a6:Int) (a7:Tx) (a8:Int) (a9:List Tx):List Int :=
 be now 8++et a1++et a2++be a3 4++[if a4=true then 1 else 0]++be (u4 a6) 4++et a7++be a8 4++[(a5.length:Int)]++a5.flatMap ec++[(a9.length:Int)]++a9.flatMap et
end Go.Proofs.Ytlaccfegaoaakaa

set_option maxRecDepth 100000
namespace Go.Proofs.Ytlaccfegaoaakaa
open Go.RowKit
noncomputable def nmB {γ:Type} (u:Int):(Int×List Int)→Option ((Int×List Int) ⊕ (List Int ⊕ γ)) :=
(fun (v12,v13) =>
 bif (decide (v12≥(0:Int))) then
 bindO (some (Go.IntKind.wrap .i64 ((8:Int)*v12))) fun x15 =>
 bif (decide ((0:Int)≤x15)) then
 bindO (some (Int.fdiv u ((2:Int) ^ (Min.min (Int.toNat x15) 64)))) fun x16 =>
 bif (decide ((List.length v13)≤(List.length v13))) then
 bif (decide (((List.length ((List.take (List.length v13) v13)++((Go.IntKind.wrap .u8 x16)::([]:List Int))))*1)≤140737488355328)) then
 bindO (some ((List.take (List.length v13) v13)++((Go.IntKind.wrap .u8 x16)::([]:List Int)))) fun x18 =>
 bif (decide ((List.length x18)≤(List.length x18))) then
 some (Sum.inl ((Go.IntKind.wrap .i64 (v12-(1:Int))),(List.take (List.length x18) x18)))
 else none
 else none
 else none
 else none
 else
 outO (bif (decide ((List.length v13)≤(List.length v13))) then
 some (Sum.inl (List.take (List.length v13) v13))
 else none))
theorem pow_256 (m:Nat):(2:Int) ^ (8*m)=256 ^ m:=by rw [Int.pow_mul];rfl
theorem take_getI {A:List Int} {n:Nat} (h:n<A.length):A.take (n+1)=A.take n++[A.getD n 0]:=by
 rw [List.take_add_one,List.getElem?_eq_getElem h,List.getD_eq_getElem?_getD,List.getElem?_eq_getElem h];rfl
theorem nm_j {γ:Type} {u:Int} {k:Nat} {v:Int} (b:List Int) (hu:0≤u) (hv:v=(k:Int)-1) (hk:k≤8) (hb:b.length≤1000000):loopO (nmB (γ:=γ) u) (v,b)=some (.inl (b++be u k)):=by
 subst hv
 have hl:=be_len u k
 refine loopO_from (fun n=>(((k:Int)-1-(n:Int)),b++(be u k).take n)) k (by simp) (fun n hn => ?_) ?_
 ·obtain ⟨m,hm⟩:∃m:Nat,k-1-n=m:=⟨_,rfl⟩
  have e1:(k:Int)-1-(n:Int)=(m:Int):=by omega
  have e2:(k:Int)-1-((n+1:Nat):Int)=(m:Int)-1:=by omega
  have hx:IntKind.wrap .u8 (Int.fdiv u ((2:Int) ^ (Min.min (Int.toNat (8*(m:Int))) 64)))=(be u k).getD n 0:=by
   rw [be_get u k n hn,hm,wr_u8]
   have:Min.min (Int.toNat (8*(m:Int))) 64=8*m:=by omega
   have hp:(0:Int)<256 ^ m:=Int.pow_pos (by decide)
   rw [this,pow_256,Int.fdiv_eq_ediv_of_nonneg _ (by omega)]
  have hx8:IntKind.wrap .i64 (8*(m:Int))=8*(m:Int):=wrap_i64' (by omega)
  have hw:IntKind.wrap .i64 ((m:Int)-1)=(m:Int)-1:=wrap_i64' (by omega)
  have ht:((be u k).take n).length≤8:=by rw [List.length_take];omega
  simp only [e1,e2,take_getI (show n<(be u k).length by omega)]
  generalize (be u k).take n=A at *
  have hB:(b.length+(A.length+1))*1≤140737488355328:=by omega
  unfold nmB
  simp (disch:=(first | omega | (simp only [LNl];omega))) only [↓SDl,SDr,if_pos,hx8,hx,hw,List.append_assoc]
 ·have hT:(be u k).take k=be u k:=List.take_of_length_le (by omega)
  simp only [hT]
  unfold nmB
  have:¬((k:Int)-1-(k:Int)≥0):=by omega
  simp (disch:=(first | omega | (simp only [LNl];omega))) only [↓SDl,SDr,if_neg]
end Go.Proofs.Ytlaccfegaoaakaa
