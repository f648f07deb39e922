import Derived.Test.YtlaccfegaoaakaaB4p
import Derived.Test.YtlaccfegaoaakaaXBp
import Derived.Test.YtlaccfegaoaakaaZ11p
import Derived.Test.YtlaccfegaoaakaaLp
import Derived.Test.YtlaccfegaoaakaaA0p
import Derived.Test.YtlaccfegaoaakaaJ15p
set_option linter.unusedSimpArgs false
set_option linter.unusedVariables false
set_option maxRecDepth 1000000
set_option maxHeartbeats 0
namespace Go.Proofs.Ytlaccfegaoaakaa
open Go.RowKit
def plan18:List (Nat×PL):=[]
noncomputable def registrar_Registrar_Register:(Int×((LU×(LU×(Int×(Bool×((List (LU×(Int×Int)))×(Int×(LU×(Int×(List LU)))))))))×(Int×(Int×(Int×(Int×((List (LU×(LU×(Int×(Int×(Int×(LU×(Int×(LU×(Int×(List LU)))))))))))×(LN×(Int×(Int×Int))))))))))→Option ((List (LU×(LU×(Int×(Int×(Int×(LU×(Int×(LU×(Int×(List LU)))))))))))×(Int×(Int×(Int×(Int×(Int×((List (LU×(LU×(Int×(Int×(Int×(LU×(Int×(LU×(Int×(List LU)))))))))))×(LN×(Int×(Int×Int)))))))))):=fun (a1,((a2,(a3,(a4,(a5,(a6,(a7,(a8,(a9,a10)))))))),(a11,(a12,(a13,(a14,(a15,(a16,(a17,(a18,a19)))))))))) =>
 bindO (registrar_Valid (a11,(a12,(a13,a14)))) fun x20 =>
 bif (!x20) then
 some (([]:List (LU×(LU×(Int×(Int×(Int×(LU×(Int×(LU×(Int×(List LU))))))))))),(z1,(a11,(a12,(a13,(a14,(a15,(a16,(a17,(a18,a19))))))))))
 else
 bindO (registrar_EncodeAct (a1,(a2,(a3,(a4,(a5,(a6,(a7,(a8,(a9,a10)))))))))) fun (x22,x23) =>
 bif (decide (x23≠z0)) then
 some (([]:List (LU×(LU×(Int×(Int×(Int×(LU×(Int×(LU×(Int×(List LU))))))))))),(x23,(a11,(a12,(a13,(a14,(a15,(a16,(a17,(a18,a19))))))))))
 else
 bif (decide (a1<a19)) then
 some (([]:List (LU×(LU×(Int×(Int×(Int×(LU×(Int×(LU×(Int×(List LU))))))))))),((9:Int),(a11,(a12,(a13,(a14,(a15,(a16,(a17,(a18,a19))))))))))
 else
 bif (!a5) then
 bif (decide ((lI a6)=z0)) then
 bindO (registrar_Lookup (a15,(a1,a2))) fun x24 =>
 some (x24,(z0,(a11,(a12,(a13,(a14,(a15,(a16,(a17,(a18,a19))))))))))
 else
 bindO (registrar_Update ((a11,(a12,(a13,a14))),(a15,(a1,(a18,(a2,(a3,(a4,(a5,(a6,(a7,(a8,(a9,a10))))))))))))) fun (x26,x27) =>
 bif (decide (x27≠z0)) then
 some (([]:List (LU×(LU×(Int×(Int×(Int×(LU×(Int×(LU×(Int×(List LU))))))))))),(x27,(a11,(a12,(a13,(a14,(a15,(a16,(a17,(a18,a19))))))))))
 else
 bindO (journal_Append ((a16,(a17,a18)),(z1,x22))) fun ((x29,(x30,x31)),x32) =>
 bif (decide (x32≠z0)) then
 some (([]:List (LU×(LU×(Int×(Int×(Int×(LU×(Int×(LU×(Int×(List LU))))))))))),(x32,(a11,(a12,(a13,(a14,(a15,(a16,(a17,(a18,a19))))))))))
 else
 bindO (registrar_Lookup (x26,(a1,a2))) fun x33 =>
 some (x33,(z0,(a11,(a12,(a13,(a14,(x26,(x29,(x30,(x31,a1))))))))))
 else
 bindO (registrar_Update ((a11,(a12,(a13,a14))),(a15,(a1,(a18,(a2,(a3,(a4,(a5,(a6,(a7,(a8,(a9,a10))))))))))))) fun (x35,x36) =>
 bif (decide (x36≠z0)) then
 some (([]:List (LU×(LU×(Int×(Int×(Int×(LU×(Int×(LU×(Int×(List LU))))))))))),(x36,(a11,(a12,(a13,(a14,(a15,(a16,(a17,(a18,a19))))))))))
 else
 bindO (journal_Append ((a16,(a17,a18)),(z1,x22))) fun ((x38,(x39,x40)),x41) =>
 bif (decide (x41≠z0)) then
 some (([]:List (LU×(LU×(Int×(Int×(Int×(LU×(Int×(LU×(Int×(List LU))))))))))),(x41,(a11,(a12,(a13,(a14,(a15,(a16,(a17,(a18,a19))))))))))
 else
 bindO (registrar_Lookup (x35,(a1,a2))) fun x42 =>
 some (x42,(z0,(a11,(a12,(a13,(a14,(x35,(x38,(x39,(x40,a1))))))))))
noncomputable def cons18:List (Nat×CE):=(9,⟨[],riB,(fun _=>some true)⟩)::(19,⟨[(.tmp 0 true [dI,dI,dI,dI,(.dat (.list UBd)),dY,dI,dI,dI]),(.tmp 1 false [dI]),(.tmp 2 true [dS,dS,dI,dO,(.dat (.list (.pair .str (.pair uI6 uI6)))),dI,dS,dI,(.dat (.list .str))])],[(.tmp 0 true [dI,dI,dI,dI,(.dat (.list UBd)),dY,dI,dI,dI]),(.tmp 1 false [(.dat (.list UBd))]),(.tmp 2 false [dE])],dialtoneref22_Register⟩)::(20,⟨[(.tmp 0 false [(.dat (.list UBd))]),(.tmp 1 false [(.dat (.list UBd))])],[(.tmp 0 false [dO])],dialtoneref22_Same⟩)::(47,⟨[(.tmp 0 false [(.dat (.list UBd))]),(.tmp 1 false [dI]),(.tmp 2 false [dS])],[(.tmp 0 false [(.dat (.list UBd))])],dialtoneref22_Lookup⟩)::(80,⟨[(.tmp 0 true [dS,dS,dI,dI,dI,dS,dI,dS,dI,(.dat (.list .str))]),(.tmp 1 true [dS,dS,dI,dI,dI,dS,dI,dS,dI,(.dat (.list .str))])],[(.tmp 0 false [dO])],dialtoneref22_Before⟩)::(48,⟨[(.tmp 0 true [dI,dI,dI,dI]),(.tmp 1 false [(.dat (.list UBd))]),(.tmp 2 false [dI]),(.tmp 3 false [dI]),(.tmp 4 true [dS,dS,dI,dO,(.dat (.list (.pair .str (.pair uI6 uI6)))),dI,dS,dI,(.dat (.list .str))])],[(.tmp 0 false [(.dat (.list UBd))]),(.tmp 1 false [dE])],dialtoneref22_Update⟩)::(83,⟨[(.tmp 0 false [(.dat (.list UBd))]),(.tmp 1 false [dI]),(.tmp 2 false [dS])],[(.tmp 0 false [dI])],dialtoneref22_Live⟩)::(81,⟨[(.tmp 0 true [dS,dS,dI,dO,(.dat (.list (.pair .str (.pair uI6 uI6)))),dI,dS,dI,(.dat (.list .str))]),(.tmp 1 true [dS,dS,dI,dI,dI,dS,dI,dS,dI,(.dat (.list .str))]),(.tmp 2 false [dI])],[(.tmp 0 false [dO])],dialtoneref22_touches⟩)::(82,⟨[(.tmp 0 true [dI,dI,dI,dI]),(.tmp 1 true [dS,dS,dI,dO,(.dat (.list (.pair .str (.pair uI6 uI6)))),dI,dS,dI,(.dat (.list .str))]),(.tmp 2 true [dS,dI,dI])],[(.tmp 0 false [dI])],dialtoneref22_Expiry⟩)::(17,⟨[(.tmp 0 true [dY,dI,dI])],[(.tmp 0 true [dY,dI,dI])],dialtoneref20_Sync⟩)::(49,⟨[(.tmp 0 true [dY,dI,dI]),(.tmp 1 true [dE,dY])],[(.tmp 0 true [dY,dI,dI]),(.tmp 1 false [dE])],dialtoneref20_Append⟩)::(44,⟨[(.tmp 0 false [(.dat (.list UBd))]),(.tmp 1 false [dI]),(.tmp 2 false [dS])],[(.tmp 0 false [(.dat (.list UBd))])],registrar_Lookup⟩)::(45,⟨[(.tmp 0 true [dI,dI,dI,dI]),(.tmp 1 false [(.dat (.list UBd))]),(.tmp 2 false [dI]),(.tmp 3 false [dI]),(.tmp 4 true [dS,dS,dI,dO,(.dat (.list (.pair .str (.pair uI6 uI6)))),dI,dS,dI,(.dat (.list .str))])],[(.tmp 0 false [(.dat (.list UBd))]),(.tmp 1 false [dE])],registrar_Update⟩)::(67,⟨[(.tmp 0 false [(.dat (.list UBd))])],[(.tmp 0 false [(.dat (.list UBd))])],registrar_copyOf⟩)::(77,⟨[(.tmp 0 true [dS,dS,dI,dO,(.dat (.list (.pair .str (.pair uI6 uI6)))),dI,dS,dI,(.dat (.list .str))]),(.tmp 1 true [dS,dS,dI,dI,dI,dS,dI,dS,dI,(.dat (.list .str))])],[(.tmp 0 false [dO])],registrar_touches⟩)::(78,⟨[(.tmp 0 true [dI,dI,dI,dI]),(.tmp 1 true [dS,dS,dI,dO,(.dat (.list (.pair .str (.pair uI6 uI6)))),dI,dS,dI,(.dat (.list .str))]),(.tmp 2 true [dS,dI,dI])],[(.tmp 0 false [dI])],registrar_expiry⟩)::(23,⟨[(.tmp 0 false [dI]),(.tmp 1 true [dS,dS,dI,dO,(.dat (.list (.pair .str (.pair uI6 uI6)))),dI,dS,dI,(.dat (.list .str))])],[(.tmp 0 false [dY]),(.tmp 1 false [dE])],encR⟩)::(1000000087,⟨[.tmp 0 false [.own 20000001 9 .str]],[.tmp 0 false [.own 20000002 9 .str]],cloneG⟩)::(1000000086,⟨[.tmp 0 false [.own 20000001 76 UBd]],[.tmp 0 false [.own 20000002 76 UBd]],cloneG⟩)::(1000000066,⟨[.tmp 0 false [.own 20000001 5 uI8]],[.tmp 0 false [.own 20000002 5 uI8]],cloneB⟩)::(87,⟨[.tmp 0 false [.dat (.list .str)]],[.tmp 0 false [.own 1 9 .str]],cloneG⟩)::(86,⟨[.tmp 0 false [.dat (.list UBd)]],[.tmp 0 false [.own 1 76 UBd]],cloneG⟩)::(66,⟨[.tmp 0 false [.dat (.list uI8)]],[.tmp 0 false [.own 1 5 uI8]],cloneB⟩)::(72,⟨[.tmp 0 false [.own 20000003 76 UBd],.tmp 1 false [.cl 73 []]],[.row 20000003 76 UBd],slices_SortStableFunc___api_Binding_api_Binding⟩)::(88,⟨[.tmp 0 false [.own 20000003 76 UBd],.tmp 1 false [.dat uI6],.tmp 2 false [.cl 73 []]],[.row 20000003 76 UBd],slices_stableCmpFunc_api_Binding⟩)::(99,⟨[.tmp 0 false [.own 20000003 76 UBd],.tmp 1 false [.dat uI6],.tmp 2 false [.dat uI6],.tmp 3 false [.dat uI6],.tmp 4 false [.cl 73 []]],[.row 20000003 76 UBd],slices_symMergeCmpFunc_api_Binding⟩)::(101,⟨[.tmp 0 false [.own 20000003 76 UBd],.tmp 1 false [.dat uI6],.tmp 2 false [.dat uI6],.tmp 3 false [.dat uI6],.tmp 4 false [.cl 73 []]],[.row 20000003 76 UBd],slices_rotateCmpFunc_api_Binding⟩)::(102,⟨[.tmp 0 false [.own 20000003 76 UBd],.tmp 1 false [.dat uI6],.tmp 2 false [.dat uI6],.tmp 3 false [.dat uI6],.tmp 4 false [.cl 73 []]],[.row 20000003 76 UBd],slices_swapRangeCmpFunc_api_Binding⟩)::(98,⟨[.tmp 0 false [.own 20000003 76 UBd],.tmp 1 false [.dat uI6],.tmp 2 false [.dat uI6],.tmp 3 false [.cl 73 []]],[.row 20000003 76 UBd],slices_insertionSortCmpFunc_api_Binding⟩)::(73,⟨[(.tmp 0 true [dS,dS,dI,dI,dI,dS,dI,dS,dI,(.dat (.list .str))]),(.tmp 1 true [dS,dS,dI,dI,dI,dS,dI,dS,dI,(.dat (.list .str))])],[(.tmp 0 false [dI])],registrar_Lookup_1⟩)::(76,⟨[(.tmp 0 false [dS]),(.tmp 1 false [dS])],[(.tmp 0 false [dI])],cmp_Compare_string⟩)::(75,⟨[(.tmp 0 false [dI]),(.tmp 1 false [dI])],[(.tmp 0 false [dI])],cmp_Compare_int⟩)::(41,⟨[(.tmp 0 true [dY,dI,dI])],[(.tmp 0 true [dY,dI,dI])],journal_Sync⟩)::(46,⟨[(.tmp 0 true [dY,dI,dI]),(.tmp 1 true [dE,dY])],[(.tmp 0 true [dY,dI,dI]),(.tmp 1 false [dE])],journal_Append⟩)::(51,⟨[(.tmp 0 true [dY,dI,dI]),(.tmp 1 true [dY,dI,dI])],[(.tmp 0 false [dO])],dialtoneref20_SameLog⟩)::(42,⟨[(.tmp 0 true [dY,dI,dI])],[(.tmp 0 false [dO])],dialtoneref20_Valid⟩)::(68,⟨[(.tmp 0 true [dY,dI,dI])],[(.tmp 0 false [dO])],journal_Valid⟩)::(43,⟨[(.tmp 0 false [dY])],[(.tmp 0 false [dY])],dialtoneref20_copied⟩)::(69,⟨[(.tmp 0 false [dY]),(.tmp 1 false [dY])],[(.tmp 0 false [dY])],journal_joined⟩)::(84,⟨[(.tmp 0 false [dI]),(.tmp 1 true [dE,dY])],[(.tmp 0 false [dY]),(.tmp 1 false [dE])],dialtoneref20_Encode⟩)::(79,⟨[(.tmp 0 false [dI]),(.tmp 1 true [dE,dY])],[(.tmp 0 false [dY]),(.tmp 1 false [dE])],journal_Encode⟩)::(95,⟨[(.tmp 0 false [dI]),(.tmp 1 false [dI])],[(.tmp 0 false [dY])],dialtoneref20_number⟩)::(96,⟨[(.tmp 0 false [dY])],[(.tmp 0 false [(.dat (.int .u32))])],dialtoneref20_Check⟩)::(94,⟨[(.tmp 0 false [dY])],[(.tmp 0 false [(.dat (.int .u32))])],journal_Check⟩)::(50,⟨[(.tmp 0 false [(.dat (.list .str))]),(.tmp 1 false [(.dat (.list .str))])],[(.tmp 0 false [dO])],dialtoneref22_strings⟩)::(22,⟨[(.tmp 0 false [dI]),(.tmp 1 true [dS,dS,dI,dO,(.dat (.list (.pair .str (.pair uI6 uI6)))),dI,dS,dI,(.dat (.list .str))])],[(.tmp 0 false [dY]),(.tmp 1 false [dE])],registrar_EncodeAct⟩)::cons3
theorem cons18_ok:ConL Try.prog cons18:=⟨con_true (by kernel_rfl) lives_o,⟨con19,⟨con20,⟨con47,⟨con80,⟨con48,⟨con83,⟨con81,⟨con82,⟨con17,⟨con49,⟨con44,⟨con45,⟨con67,⟨con77,⟨con78,⟨con23_encR,⟨clone_conm87,⟨clone_conm86,⟨clone_conm66,⟨clone_con87,⟨clone_con86,⟨clone_con66,⟨con72,⟨con88,⟨con99,⟨con101,⟨con102,⟨con98,⟨con73,⟨con76,⟨con75,⟨conj41,⟨conj46,⟨conj51,⟨conj42,⟨conj68,⟨conj43,⟨conj69,⟨conj84,⟨conj79,⟨conj95,⟨conj96,⟨conj94,⟨con50,⟨con22,cons3_ok⟩⟩⟩⟩⟩⟩⟩⟩⟩⟩⟩⟩⟩⟩⟩⟩⟩⟩⟩⟩⟩⟩⟩⟩⟩⟩⟩⟩⟩⟩⟩⟩⟩⟩⟩⟩⟩⟩⟩⟩⟩⟩⟩⟩⟩⟩
theorem con18:ConOk Try.prog 18 ⟨[.tmp 0 false [.pt 20000010 0],.tmp 1 false [.dat uI6],.tmp 2 true [.dat .str,.dat .str,.dat uI6,.dat .bool,.dat (.list (.pair .str (.pair uI6 uI6))),.dat uI6,.dat .str,.dat uI6,.dat (.list .str)],.mix 20000010 [.dat uI6,.dat uI6,.dat uI6,.dat uI6,.dat (.list UBd),.dat (.list uI8),.dat uI6,.dat uI6,.dat uI6]],[.tmp 0 false [(.dat (.list UBd))],.tmp 1 false [dE],.mix 20000010 [dI,dI,dI,dI,(.dat (.list UBd)),dY,dI,dI,dI]],registrar_Registrar_Register⟩ :=
 conS_ok (tree_okS (plan:=planOf plan18) (eg:=egNo) KK tabL_ok (conOf_ok cons18_ok) Try.func18 (by kernel_rfl) (by kernel_rfl) 10000 (fun a r h=>Eq.trans (show _=registrar_Registrar_Register a from by kernel_rfl) h)) (by rfl)
def plan52_lookupM:List (Nat×PL):=[]
noncomputable def lookupM:(Int×(LU×(Int×(Int×(Int×(Int×((List (LU×(LU×(Int×(Int×(Int×(LU×(Int×(LU×(Int×(List LU)))))))))))×(LN×(Int×(Int×Int))))))))))→Option (List (LU×(LU×(Int×(Int×(Int×(LU×(Int×(LU×(Int×(List LU))))))))))):=fun (a1,(a2,(a3,(a4,(a5,(a6,(a7,(a8,(a9,(a10,a11)))))))))) =>
 bindO (registrar_Valid (a3,(a4,(a5,a6)))) fun x12 =>
 bif (!x12) then
 some ([]:List (LU×(LU×(Int×(Int×(Int×(LU×(Int×(LU×(Int×(List LU)))))))))))
 else
 bindO (registrar_Lookup (a7,(a1,a2))) fun x13 =>
 some x13
noncomputable def cons52_lookupM:List (Nat×CE):=(18,⟨[.tmp 0 false [.pt 20000010 0],.tmp 1 false [.dat uI6],.tmp 2 true [.dat .str,.dat .str,.dat uI6,.dat .bool,.dat (.list (.pair .str (.pair uI6 uI6))),.dat uI6,.dat .str,.dat uI6,.dat (.list .str)],.mix 20000010 [.dat uI6,.dat uI6,.dat uI6,.dat uI6,.dat (.list UBd),.dat (.list uI8),.dat uI6,.dat uI6,.dat uI6]],[.tmp 0 false [(.dat (.list UBd))],.tmp 1 false [dE],.mix 20000010 [dI,dI,dI,dI,(.dat (.list UBd)),dY,dI,dI,dI]],registrar_Registrar_Register⟩)::cons18
theorem cons52_lookupM_ok:ConL Try.prog cons52_lookupM:=⟨con18,cons18_ok⟩
theorem con52_lookupM:ConOk Try.prog 52 ⟨[.tmp 0 false [.pt 20000010 0],.tmp 1 false [.dat uI6],.tmp 2 false [.dat .str],.mix 20000010 [.dat uI6,.dat uI6,.dat uI6,.dat uI6,.dat (.list UBd),.dat (.list uI8),.dat uI6,.dat uI6,.dat uI6]],[.tmp 0 false [(.dat (.list UBd))]],lookupM⟩ :=
 conS_ok (tree_okS (plan:=planOf plan52_lookupM) (eg:=egNo) KK tabL_ok (conOf_ok cons52_lookupM_ok) Try.func52 (by kernel_rfl) (by kernel_rfl) 10000 (fun a r h=>Eq.trans (show _=lookupM a from by kernel_rfl) h)) (by rfl)
def plan31:List (Nat×PL):=[]
noncomputable def registrar_Registrar_All:(Int×(Int×(Int×(Int×((List (LU×(LU×(Int×(Int×(Int×(LU×(Int×(LU×(Int×(List LU)))))))))))×(LN×(Int×(Int×Int))))))))→Option (List (LU×(LU×(Int×(Int×(Int×(LU×(Int×(LU×(Int×(List LU))))))))))):=fun (a1,(a2,(a3,(a4,(a5,(a6,(a7,(a8,a9)))))))) =>
 bindO (registrar_Valid (a1,(a2,(a3,a4)))) fun x10 =>
 bif (!x10) then
 some ([]:List (LU×(LU×(Int×(Int×(Int×(LU×(Int×(LU×(Int×(List LU)))))))))))
 else
 bindO (registrar_copyOf a5) fun x11 =>
 some x11
noncomputable def cons31:List (Nat×CE):=(52,⟨[.tmp 0 false [.pt 20000010 0],.tmp 1 false [.dat uI6],.tmp 2 false [.dat .str],.mix 20000010 [.dat uI6,.dat uI6,.dat uI6,.dat uI6,.dat (.list UBd),.dat (.list uI8),.dat uI6,.dat uI6,.dat uI6]],[.tmp 0 false [(.dat (.list UBd))]],lookupM⟩)::cons52_lookupM
theorem cons31_ok:ConL Try.prog cons31:=⟨con52_lookupM,cons52_lookupM_ok⟩
theorem con31:ConOk Try.prog 31 ⟨[.tmp 0 false [.pt 20000010 0],.mix 20000010 [.dat uI6,.dat uI6,.dat uI6,.dat uI6,.dat (.list UBd),.dat (.list uI8),.dat uI6,.dat uI6,.dat uI6]],[.tmp 0 false [(.dat (.list UBd))]],registrar_Registrar_All⟩ :=
 conS_ok (tree_okS (plan:=planOf plan31) (eg:=egNo) KK tabL_ok (conOf_ok cons31_ok) Try.func31 (by kernel_rfl) (by kernel_rfl) 10000 (fun a r h=>Eq.trans (show _=registrar_Registrar_All a from by kernel_rfl) h)) (by rfl)
def plan30:List (Nat×PL):=[]
noncomputable def registrar_Registrar_Log:(Int×(Int×(Int×(Int×((List (LU×(LU×(Int×(Int×(Int×(LU×(Int×(LU×(Int×(List LU)))))))))))×(LN×(Int×(Int×Int))))))))→Option (LN×(Int×Int)):=fun (a1,(a2,(a3,(a4,(a5,(a6,(a7,(a8,a9)))))))) =>
 bindO (registrar_Valid (a1,(a2,(a3,a4)))) fun x10 =>
 bif (!x10) then
 some (([]:List Int),(z0,z0))
 else
 bindO (cloneB a6) fun x11 =>
 bif (lE x11) then
 some ((tA x11),(a7,a8))
 else none
noncomputable def cons30:List (Nat×CE):=(31,⟨[.tmp 0 false [.pt 20000010 0],.mix 20000010 [.dat uI6,.dat uI6,.dat uI6,.dat uI6,.dat (.list UBd),.dat (.list uI8),.dat uI6,.dat uI6,.dat uI6]],[.tmp 0 false [(.dat (.list UBd))]],registrar_Registrar_All⟩)::cons31
theorem cons30_ok:ConL Try.prog cons30:=⟨con31,cons31_ok⟩
theorem con30:ConOk Try.prog 30 ⟨[.tmp 0 false [.pt 20000010 0],.mix 20000010 [.dat uI6,.dat uI6,.dat uI6,.dat uI6,.dat (.list UBd),.dat (.list uI8),.dat uI6,.dat uI6,.dat uI6]],[.tmp 0 true [(.own 10000001 5 uI8),dI,dI]],registrar_Registrar_Log⟩ :=
 conS_ok (tree_okS (plan:=planOf plan30) (eg:=egNo) KK tabL_ok (conOf_ok cons30_ok) Try.func30 (by kernel_rfl) (by kernel_rfl) 10000 (fun a r h=>Eq.trans (show _=registrar_Registrar_Log a from by kernel_rfl) h)) (by rfl)
def plan16_syncM:List (Nat×PL):=[]
noncomputable def syncM:(Int×(Int×(Int×(Int×((List (LU×(LU×(Int×(Int×(Int×(LU×(Int×(LU×(Int×(List LU)))))))))))×(LN×(Int×(Int×Int))))))))→Option (Int×(Int×(Int×(Int×(Int×((List (LU×(LU×(Int×(Int×(Int×(LU×(Int×(LU×(Int×(List LU)))))))))))×(LN×(Int×(Int×Int))))))))):=fun (a1,(a2,(a3,(a4,(a5,(a6,(a7,(a8,a9)))))))) =>
 bindO (registrar_Valid (a1,(a2,(a3,a4)))) fun x10 =>
 bif (!x10) then
 some (z1,(a1,(a2,(a3,(a4,(a5,(a6,(a7,(a8,a9)))))))))
 else
 bindO (journal_Sync (a6,(a7,a8))) fun (x12,(x13,x14)) =>
 some (z0,(a1,(a2,(a3,(a4,(a5,(x12,(x13,(x14,a9)))))))))
noncomputable def cons16_syncM:List (Nat×CE):=(30,⟨[.tmp 0 false [.pt 20000010 0],.mix 20000010 [.dat uI6,.dat uI6,.dat uI6,.dat uI6,.dat (.list UBd),.dat (.list uI8),.dat uI6,.dat uI6,.dat uI6]],[.tmp 0 true [(.own 10000001 5 uI8),dI,dI]],registrar_Registrar_Log⟩)::cons30
theorem cons16_syncM_ok:ConL Try.prog cons16_syncM:=⟨con30,cons30_ok⟩
theorem con16_syncM:ConOk Try.prog 16 ⟨[.tmp 0 false [.pt 20000010 0],.mix 20000010 [.dat uI6,.dat uI6,.dat uI6,.dat uI6,.dat (.list UBd),.dat (.list uI8),.dat uI6,.dat uI6,.dat uI6]],[.tmp 0 false [dE],.mix 20000010 [dI,dI,dI,dI,(.dat (.list UBd)),dY,dI,dI,dI]],syncM⟩ :=
 conS_ok (tree_okS (plan:=planOf plan16_syncM) (eg:=egNo) KK tabL_ok (conOf_ok cons16_syncM_ok) Try.func16 (by kernel_rfl) (by kernel_rfl) 10000 (fun a r h=>Eq.trans (show _=syncM a from by kernel_rfl) h)) (by rfl)
def plan15_copyM:List (Nat×PL):=[]
noncomputable def copyM:(Int×(Int×(Int×(Int×((List (LU×(LU×(Int×(Int×(Int×(LU×(Int×(LU×(Int×(List LU)))))))))))×(LN×(Int×(Int×Int))))))))→Option (Int×(Int×(Int×(Int×((List (LU×(LU×(Int×(Int×(Int×(LU×(Int×(LU×(Int×(List LU)))))))))))×(LN×(Int×(Int×Int)))))))):=fun (a1,(a2,(a3,(a4,(a5,(a6,(a7,(a8,a9)))))))) =>
 bindO (registrar_Valid (a1,(a2,(a3,a4)))) fun x10 =>
 bif (!x10) then
 none
 else
 bindO (registrar_Registrar_All (a1,(a2,(a3,(a4,(a5,(a6,(a7,(a8,a9))))))))) fun x11 =>
 bindO (registrar_Registrar_Log (a1,(a2,(a3,(a4,(a5,(a6,(a7,(a8,a9))))))))) fun (x13,(x14,x15)) =>
 bif (lE x13) then
 some (a1,(a2,(a3,(a4,(x11,((tA x13),(x14,(x15,a9))))))))
 else none
noncomputable def cons15_copyM:List (Nat×CE):=(16,⟨[.tmp 0 false [.pt 20000010 0],.mix 20000010 [.dat uI6,.dat uI6,.dat uI6,.dat uI6,.dat (.list UBd),.dat (.list uI8),.dat uI6,.dat uI6,.dat uI6]],[.tmp 0 false [dE],.mix 20000010 [dI,dI,dI,dI,(.dat (.list UBd)),dY,dI,dI,dI]],syncM⟩)::cons16_syncM
theorem cons15_copyM_ok:ConL Try.prog cons15_copyM:=⟨con16_syncM,cons16_syncM_ok⟩
theorem con15_copyM:ConOk Try.prog 15 ⟨[.tmp 0 false [.pt 20000010 0],.mix 20000010 [.dat uI6,.dat uI6,.dat uI6,.dat uI6,.dat (.list UBd),.dat (.list uI8),.dat uI6,.dat uI6,.dat uI6]],[.tmp 0 false [.pt 20000020 0],.mix 20000020 [.dat uI6,.dat uI6,.dat uI6,.dat uI6,.dat (.list UBd),.dat (.list uI8),.dat uI6,.dat uI6,.dat uI6]],copyM⟩ :=
 conS_ok (tree_okS (plan:=planOf plan15_copyM) (eg:=egNo) KK tabL_ok (conOf_ok cons15_copyM_ok) Try.func15 (by kernel_rfl) (by kernel_rfl) 10000 (fun a r h=>Eq.trans (show _=copyM a from by kernel_rfl) h)) (by rfl)
def plan21_sameM:List (Nat×PL):=[]
noncomputable def sameM:((Int×(Int×(Int×(Int×((List (LU×(LU×(Int×(Int×(Int×(LU×(Int×(LU×(Int×(List LU)))))))))))×(LN×(Int×(Int×Int))))))))×(Int×(LU×(Int×(Int×(Int×(Int×((List (LU×(LU×(Int×(Int×(Int×(LU×(Int×(LU×(Int×(List LU)))))))))))×(LN×(Int×(Int×Int)))))))))))→Option Bool:=fun ((a1,(a2,(a3,(a4,(a5,(a6,(a7,(a8,a9)))))))),(a10,(a11,(a12,(a13,(a14,(a15,(a16,(a17,(a18,(a19,a20))))))))))) =>
 bindO (registrar_Registrar_All (a12,(a13,(a14,(a15,(a16,(a17,(a18,(a19,a20))))))))) fun x21 =>
 bindO (dialtoneref22_Same (x21,a5)) fun x22 =>
 bif x22 then
 bindO (registrar_Registrar_Log (a12,(a13,(a14,(a15,(a16,(a17,(a18,(a19,a20))))))))) fun (x24,(x25,x26)) =>
 bif (lE x24) then
 bindO (dialtoneref20_SameLog (((tA x24),(x25,x26)),(a6,(a7,a8)))) fun x27 =>
 bif x27 then
 bindO (lookupM (a10,(a11,(a12,(a13,(a14,(a15,(a16,(a17,(a18,(a19,a20))))))))))) fun x28 =>
 bindO (dialtoneref22_Lookup (a5,(a10,a11))) fun x29 =>
 bindO (dialtoneref22_Same (x28,x29)) fun x30 =>
 some x30
 else
 some Bool.false
 else none
 else
 some Bool.false
noncomputable def cons21_sameM:List (Nat×CE):=(15,⟨[.tmp 0 false [.pt 20000010 0],.mix 20000010 [.dat uI6,.dat uI6,.dat uI6,.dat uI6,.dat (.list UBd),.dat (.list uI8),.dat uI6,.dat uI6,.dat uI6]],[.tmp 0 false [.pt 20000020 0],.mix 20000020 [.dat uI6,.dat uI6,.dat uI6,.dat uI6,.dat (.list UBd),.dat (.list uI8),.dat uI6,.dat uI6,.dat uI6]],copyM⟩)::cons15_copyM
theorem cons21_sameM_ok:ConL Try.prog cons21_sameM:=⟨con15_copyM,cons15_copyM_ok⟩
theorem con21_sameM:ConOk Try.prog 21 ⟨[.tmp 0 false [.pt 20000010 0],.tmp 1 true [.dat uI6,.dat uI6,.dat uI6,.dat uI6,.dat (.list UBd),.dat (.list uI8),.dat uI6,.dat uI6,.dat uI6],.tmp 2 false [.dat uI6],.tmp 3 false [.dat .str],.mix 20000010 [.dat uI6,.dat uI6,.dat uI6,.dat uI6,.dat (.list UBd),.dat (.list uI8),.dat uI6,.dat uI6,.dat uI6]],[.tmp 0 false [dO]],sameM⟩ :=
 conS_ok (tree_okS (plan:=planOf plan21_sameM) (eg:=egNo) KK tabL_ok (conOf_ok cons21_sameM_ok) Try.func21 (by kernel_rfl) (by kernel_rfl) 10000 (fun a r h=>Eq.trans (show _=sameM a from by kernel_rfl) h)) (by rfl)
end Go.Proofs.Ytlaccfegaoaakaa

set_option maxRecDepth 100000
namespace Go.Proofs.Ytlaccfegaoaakaa
open Go.RowKit
def rCs (r:Rg9):List Ct:=r.2.2.2.2.1
abbrev Cf:=Int×(Int×(Int×Int))
noncomputable def coB {δ:Type} (x2:List Bnd):(Int×List Bnd)→Option ((Int×List Bnd) ⊕ (List Bnd ⊕ δ)) :=
(fun (v3,v4) =>
 bif (decide (v3<(((List.length x2):Nat):Int))) then
 bif (decide (((0:Int)≤v3)∧(v3<(((List.length x2):Nat):Int)))) then
 bindO v4[(Int.toNat v3)]? fun x5 =>
 bindO (cloneG x5.2.2.2.2.2.2.2.2.2) fun x6 =>
 bif (decide (((0:Int)≤v3)∧(v3<(((List.length x2):Nat):Int)))) then
 bindO v4[(Int.toNat v3)]? fun x7 =>
 bif (decide ((List.length x6)≤(List.length x6))) then
 some (Sum.inl ((Go.IntKind.wrap .i64 (v3+(1:Int))),(List.set v4 (Int.toNat v3) (x7.1,(x7.2.1,(x7.2.2.1,(x7.2.2.2.1,(x7.2.2.2.2.1,(x7.2.2.2.2.2.1,(x7.2.2.2.2.2.2.1,(x7.2.2.2.2.2.2.2.1,(x7.2.2.2.2.2.2.2.2.1,(List.take (List.length x6) x6)))))))))))))
 else none
 else none
 else none
 else
 outO (some (Sum.inl v4)))
theorem co_eq (a1:List Bnd):registrar_copyOf a1 =
 bindO (cloneG a1) fun x2 =>
 joinO (loopO (coB x2) ((0:Int),x2)) fun v9 =>
 bif (decide ((List.length x2)≤(List.length v9))) then
  some (List.take (List.length x2) v9)
 else none:=rfl
noncomputable def luB {δ:Type} (a1:List Bnd) (a2:Int) (a3:Tx):(Int×List Bnd)→Option ((Int×List Bnd) ⊕ (List Bnd ⊕ δ)) :=
(fun (v4,v5) =>
 bif (decide (v4<(((List.length a1):Nat):Int))) then
 bif (decide (((0:Int)≤v4)∧(v4<(((List.length a1):Nat):Int)))) then
 bindO a1[(Int.toNat v4)]? fun x6 =>
 bif (decide (x6.1=a3)) then
 bif (decide (x6.2.2.2.1 > a2)) then
 bif (decide ((List.length v5)≤(List.length v5))) then
 bif (decide (((List.length ((List.take (List.length v5) v5)++(x6::([]:List Bnd))))*128)≤140737488355328)) then
 bindO (some ((List.take (List.length v5) v5)++(x6::([]:List Bnd)))) fun x7 =>
 bif (decide ((List.length x7)≤(List.length x7))) then
 some (Sum.inl ((Go.IntKind.wrap .i64 (v4+(1:Int))),(List.take (List.length x7) x7)))
 else none
 else none
 else none
 else
 bif (decide ((List.length v5)≤(List.length v5))) then
 some (Sum.inl ((Go.IntKind.wrap .i64 (v4+(1:Int))),(List.take (List.length v5) v5)))
 else none
 else
 bif (decide ((List.length v5)≤(List.length v5))) then
 some (Sum.inl ((Go.IntKind.wrap .i64 (v4+(1:Int))),(List.take (List.length v5) v5)))
 else none
 else none
 else
 outO (bif (decide ((List.length v5)≤(List.length v5))) then
 some (Sum.inl (List.take (List.length v5) v5))
 else none))
theorem lu_eq (a1:List Bnd) (a2:Int) (a3:Tx):registrar_Lookup (a1,(a2,a3)) =
 joinO (loopO (luB a1 a2 a3) ((0:Int),([]:List Bnd))) fun v11 =>
 bif (decide ((List.length v11)=(List.length v11))) then
  bindO (slices_SortStableFunc___api_Binding_api_Binding v11) fun x12 =>
  bif (decide ((List.length v11)≤(List.length x12))) then
   bindO (registrar_copyOf (List.take (List.length v11) x12)) fun x13 =>
   some x13
  else none
 else none:=rfl
noncomputable def liB {δ:Type} (a1:List Bnd) (v4:Int) (v5:List Bnd):(Int)→Option ((Int) ⊕ (Int ⊕ δ)) :=
(fun v8 =>
 bif (decide (v8 > (0:Int))) then
 bif (decide (((0:Int)≤v4)∧(v4<(((List.length a1):Nat):Int)))) then
 bindO a1[(Int.toNat v4)]? fun x9 =>
 bindO (some (Go.IntKind.wrap .i64 (v8-(1:Int)))) fun x10 =>
 bif (decide (((0:Int)≤x10)∧(x10<(((List.length v5):Nat):Int)))) then
 bindO v5[(Int.toNat x10)]? fun x11 =>
 bindO (dialtoneref22_Before (x9,x11)) fun x12 =>
 bif x12 then
 some (Sum.inl (Go.IntKind.wrap .i64 (v8-(1:Int))))
 else
 outO (some (Sum.inl v8))
 else none
 else none
 else
 outO (some (Sum.inl v8)))
noncomputable def lrB {δ:Type} (a1:List Bnd) (a2:Int) (a3:Tx):(Int×List Bnd)→Option ((Int×List Bnd) ⊕ (List Bnd ⊕ δ)) :=
(fun (v4,v5) =>
 bif (decide (v4<(((List.length a1):Nat):Int))) then
 joinO (bif (decide (((0:Int)≤v4)∧(v4<(((List.length a1):Nat):Int)))) then
 bindO a1[(Int.toNat v4)]? fun x6 =>
 bif (decide (x6.1≠a3)) then
 bif (decide ((List.length v5)≤(List.length v5))) then
 some (Sum.inl (List.take (List.length v5) v5))
 else none
 else
 bif (decide (((0:Int)≤v4)∧(v4<(((List.length a1):Nat):Int)))) then
 bindO a1[(Int.toNat v4)]? fun x7 =>
 bif (decide (x7.2.2.2.1≤a2)) then
 bif (decide ((List.length v5)≤(List.length v5))) then
 some (Sum.inl (List.take (List.length v5) v5))
 else none
 else
 joinO (loopO (liB a1 v4 v5) (((List.length v5):Nat):Int)) fun v14 =>
 bif (decide (((0:Int)≤v14)∧(v14≤(((List.length v5):Nat):Int)))) then
 bif (decide ((Int.toNat v14)≤(List.length v5))) then
 bif (decide (((List.length (List.take (Int.toNat v14) v5))*128)≤140737488355328)) then
 bindO (some (List.take (Int.toNat v14) v5)) fun x15 =>
 bif (decide (((0:Int)≤v4)∧(v4<(((List.length a1):Nat):Int)))) then
 bindO a1[(Int.toNat v4)]? fun x16 =>
 bif (decide ((List.length x15)≤(List.length x15))) then
 bif (decide (((List.length ((List.take (List.length x15) x15)++(x16::([]:List Bnd))))*128)≤140737488355328)) then
 bindO (some ((List.take (List.length x15) x15)++(x16::([]:List Bnd)))) fun x17 =>
 bif (decide (((0:Int)≤v14)∧(v14≤(((List.length v5):Nat):Int)))) then
 bif ((decide (((Int.toNat v14)+((List.length v5)-(Int.toNat v14)))≤(List.length v5)))&&(decide ((List.length x17)≤(List.length x17)))) then
 bif (decide (((List.length ((List.take (List.length x17) x17)++(List.take ((List.length v5)-(Int.toNat v14)) (List.drop (Int.toNat v14) v5))))*128)≤140737488355328)) then
 bindO (some ((List.take (List.length x17) x17)++(List.take ((List.length v5)-(Int.toNat v14)) (List.drop (Int.toNat v14) v5)))) fun x18 =>
 bif (decide ((List.length x18)≤(List.length x18))) then
 some (Sum.inl (List.take (List.length x18) x18))
 else none
 else none
 else none
 else none
 else none
 else none
 else none
 else none
 else none
 else none
 else none
 else none) fun v19 =>
 bif (decide ((List.length v19)≤(List.length v19))) then
 some (Sum.inl ((Go.IntKind.wrap .i64 (v4+(1:Int))),(List.take (List.length v19) v19)))
 else none
 else
 outO (bif (decide ((List.length v5)≤(List.length v5))) then
 some (Sum.inl (List.take (List.length v5) v5))
 else none))
theorem lr_eq (a1:List Bnd) (a2:Int) (a3:Tx):dialtoneref22_Lookup (a1,(a2,a3)) =
 joinO (loopO (lrB a1 a2 a3) ((0:Int),([]:List Bnd))) fun v21 =>
 bif (decide ((List.length v21)≤(List.length v21))) then
  some (List.take (List.length v21) v21)
 else none:=rfl
noncomputable def toA {δ:Type} (r:Rg9) (b:Bnd):(Int)→Option ((Int) ⊕ (Unit ⊕ (Int ⊕ δ))) :=
(fun v20 =>
 bif (decide (v20<(((List.length (rCs r)):Nat):Int))) then
 bif (decide (((0:Int)≤v20)∧(v20<(((List.length (rCs r)):Nat):Int)))) then
 bindO (rCs r)[(Int.toNat v20)]? fun x21 =>
 bif (decide (x21.1=b.2.1)) then
 outO (outO (some (Sum.inl v20)))
 else
 bif (decide (b.2.2.2.2.2.2.2.1=r.2.2.2.2.2.2.1)) then
 outO (outO (some (Sum.inl v20)))
 else
 some (Sum.inl (Go.IntKind.wrap .i64 (v20+(1:Int))))
 else none
 else
 outO (some (Sum.inl ())))
noncomputable def toC {δ:Type} (r:Rg9) (b:Bnd):(Int)→Option ((Int) ⊕ (Unit ⊕ (Int ⊕ δ))) :=
(fun v24 =>
 bif (decide (v24<(((List.length (rCs r)):Nat):Int))) then
 bif (decide (((0:Int)≤v24)∧(v24<(((List.length (rCs r)):Nat):Int)))) then
 bindO (rCs r)[(Int.toNat v24)]? fun x25 =>
 bif (decide (x25.1=b.2.1)) then
 outO (outO (some (Sum.inl v24)))
 else
 some (Sum.inl (Go.IntKind.wrap .i64 (v24+(1:Int))))
 else none
 else
 outO (some (Sum.inl ())))
noncomputable def toD {δ:Type} (r:Rg9) (b:Bnd):(Int)→Option ((Int) ⊕ (Unit ⊕ (Int ⊕ δ))) :=
(fun v28 =>
 bif (decide (v28<(((List.length (rCs r)):Nat):Int))) then
 bif (decide (((0:Int)≤v28)∧(v28<(((List.length (rCs r)):Nat):Int)))) then
 bindO (rCs r)[(Int.toNat v28)]? fun x29 =>
 bif (decide (x29.1=b.2.1)) then
 outO (outO (some (Sum.inl v28)))
 else
 some (Sum.inl (Go.IntKind.wrap .i64 (v28+(1:Int))))
 else none
 else
 outO (some (Sum.inl ())))
theorem to_eq (r:Rg9) (b:Bnd):registrar_touches (r,b) =
 bif r.2.2.2.1 then
  some Bool.true
 else
  bif (decide (r.2.2.2.2.2.2.2.1≠(0:Int))) then
   bif (decide (b.2.2.2.2.2.2.2.2.1=r.2.2.2.2.2.2.2.1)) then
    joinO (joinO (loopO (toA r b) (0:Int)) fun _ =>
     some (Sum.inl (-1:Int))) fun v23 =>
    some (decide (v23≥(0:Int)))
   else
    joinO (joinO (loopO (toC r b) (0:Int)) fun _ =>
     some (Sum.inl (-1:Int))) fun v27 =>
    some (decide (v27≥(0:Int)))
  else
   joinO (joinO (loopO (toD r b) (0:Int)) fun _ =>
    some (Sum.inl (-1:Int))) fun v31 =>
   some (decide (v31≥(0:Int))):=rfl
noncomputable def trB (r:Rg9) (b:Bnd):(Int)→Option ((Int) ⊕ (Unit ⊕ Bool)) :=
(fun v21 =>
 bif (decide (v21<(((List.length (rCs r)):Nat):Int))) then
 bif (decide (((0:Int)≤v21)∧(v21<(((List.length (rCs r)):Nat):Int)))) then
 bindO (rCs r)[(Int.toNat v21)]? fun x22 =>
 bif (decide (x22.1=b.2.1)) then
 outO (outO (some Bool.true))
 else
 bif (decide (r.2.2.2.2.2.2.2.1≠(0:Int))) then
 bif (decide (r.2.2.2.2.2.2.1=b.2.2.2.2.2.2.2.1)) then
 bif (decide (r.2.2.2.2.2.2.2.1=b.2.2.2.2.2.2.2.2.1)) then
 outO (outO (some Bool.true))
 else
 some (Sum.inl (Go.IntKind.wrap .i64 (v21+(1:Int))))
 else
 some (Sum.inl (Go.IntKind.wrap .i64 (v21+(1:Int))))
 else
 some (Sum.inl (Go.IntKind.wrap .i64 (v21+(1:Int))))
 else none
 else
 outO (some (Sum.inl ())))
theorem tr_eq (r:Rg9) (b:Bnd) (a20:Int):dialtoneref22_touches (r,(b,a20)) =
 bif (decide (b.1≠r.1)) then
  some Bool.false
 else
  bif (decide (b.2.2.2.1≤a20)) then
   some Bool.false
  else
   bif r.2.2.2.1 then
    some Bool.true
   else
    joinO (loopO (trB r b) (0:Int)) fun _ =>
    some Bool.false:=rfl
noncomputable def lvB {δ:Type} (a1:List Bnd) (a2:Int) (a3:Tx):(Int×Int)→Option ((Int×Int) ⊕ (Int ⊕ δ)) :=
(fun (v4,v5) =>
 bif (decide (v4<(((List.length a1):Nat):Int))) then
 bif (decide (((0:Int)≤v4)∧(v4<(((List.length a1):Nat):Int)))) then
 bindO a1[(Int.toNat v4)]? fun x6 =>
 bif (decide (x6.1=a3)) then
 bif (decide (((0:Int)≤v4)∧(v4<(((List.length a1):Nat):Int)))) then
 bindO a1[(Int.toNat v4)]? fun x7 =>
 bif (decide (x7.2.2.2.1 > a2)) then
 some (Sum.inl ((Go.IntKind.wrap .i64 (v4+(1:Int))),(Go.IntKind.wrap .i64 (v5+(1:Int)))))
 else
 some (Sum.inl ((Go.IntKind.wrap .i64 (v4+(1:Int))),v5))
 else none
 else
 some (Sum.inl ((Go.IntKind.wrap .i64 (v4+(1:Int))),v5))
 else none
 else
 outO (some (Sum.inl v5)))
theorem lv_eq (a1:List Bnd) (a2:Int) (a3:Tx):dialtoneref22_Live (a1,(a2,a3)) =
 joinO (loopO (lvB a1 a2 a3) ((0:Int),(0:Int))) fun v12 =>
 some v12:=rfl
noncomputable def upA {δ:Type} (a5:List Bnd) (a6:Int) (r:Rg9):(Int×(Bool×List Bnd))→Option ((Int×(Bool×List Bnd)) ⊕ ((Bool×List Bnd) ⊕ δ)) :=
(fun (v19,(v20,v21)) =>
 bif (decide (v19<(((List.length a5):Nat):Int))) then
 bif (decide (((0:Int)≤v19)∧(v19<(((List.length a5):Nat):Int)))) then
 bindO a5[(Int.toNat v19)]? fun x22 =>
 bif (decide (x22.1≠r.1)) then
 bif (decide ((List.length v21)≤(List.length v21))) then
 bif (decide (((List.length ((List.take (List.length v21) v21)++(x22::([]:List Bnd))))*128)≤140737488355328)) then
 bindO (some ((List.take (List.length v21) v21)++(x22::([]:List Bnd)))) fun x23 =>
 bif (decide ((List.length x23)≤(List.length x23))) then
 some (Sum.inl ((Go.IntKind.wrap .i64 (v19+(1:Int))),(v20,(List.take (List.length x23) x23))))
 else none
 else none
 else none
 else
 bif (decide (x22.2.2.2.1≤a6)) then
 bif (decide ((List.length v21)≤(List.length v21))) then
 some (Sum.inl ((Go.IntKind.wrap .i64 (v19+(1:Int))),(v20,(List.take (List.length v21) v21))))
 else none
 else
 bindO (registrar_touches (r,x22)) fun x26 =>
 bif (!x26) then
 bif (decide ((List.length v21)≤(List.length v21))) then
 bif (decide (((List.length ((List.take (List.length v21) v21)++(x22::([]:List Bnd))))*128)≤140737488355328)) then
 bindO (some ((List.take (List.length v21) v21)++(x22::([]:List Bnd)))) fun x27 =>
 bif (decide ((List.length x27)≤(List.length x27))) then
 some (Sum.inl ((Go.IntKind.wrap .i64 (v19+(1:Int))),(v20,(List.take (List.length x27) x27))))
 else none
 else none
 else none
 else
 bif (decide (x22.2.2.2.2.2.1=r.2.1)) then
 bif (decide (x22.2.2.2.2.2.2.1≥r.2.2.1)) then
 bif (decide ((List.length v21)≤(List.length v21))) then
 some (Sum.inl ((Go.IntKind.wrap .i64 (v19+(1:Int))),(Bool.true,(List.take (List.length v21) v21))))
 else none
 else
 bif (decide ((List.length v21)≤(List.length v21))) then
 some (Sum.inl ((Go.IntKind.wrap .i64 (v19+(1:Int))),(v20,(List.take (List.length v21) v21))))
 else none
 else
 bif (decide ((List.length v21)≤(List.length v21))) then
 some (Sum.inl ((Go.IntKind.wrap .i64 (v19+(1:Int))),(v20,(List.take (List.length v21) v21))))
 else none
 else none
 else
 outO (bif (decide ((List.length v21)≤(List.length v21))) then
 some (Sum.inl (v20,(List.take (List.length v21) v21)))
 else none))
noncomputable def upB (c:Cf) (a6 a7:Int) (r:Rg9):(Int×List Bnd)→Option ((Int×List Bnd) ⊕ (List Bnd ⊕ (List Bnd×Int))) :=
(fun (v34,v35) =>
 bif (decide (v34<(((List.length (rCs r)):Nat):Int))) then
 bif (decide (((0:Int)≤v34)∧(v34<(((List.length (rCs r)):Nat):Int)))) then
 bindO (rCs r)[(Int.toNat v34)]? fun x36 =>
 bindO (registrar_expiry (c,(r,x36))) fun x37 =>
 bif (decide (x37 > (0:Int))) then
 bif (decide (x37<c.1)) then
 outO (outO (some (([]:List Bnd),(16:Int))))
 else
 bif (decide (x37≠(0:Int))) then
 bindO (some (Go.IntKind.wrap .i64 (a6+(Go.IntKind.wrap .i64 ((1000:Int)*x37))))) fun x39 =>
 bif (decide ((List.length v35)≤(List.length v35))) then
 bif (decide (((List.length ((List.take (List.length v35) v35)++((r.1,(x36.1,(x36.2.1,(x39,(a7,(r.2.1,(r.2.2.1,(r.2.2.2.2.2.2.1,(r.2.2.2.2.2.2.2.1,r.2.2.2.2.2.2.2.2)))))))))::([]:List Bnd))))*128)≤140737488355328)) then
 bindO (some ((List.take (List.length v35) v35)++((r.1,(x36.1,(x36.2.1,(x39,(a7,(r.2.1,(r.2.2.1,(r.2.2.2.2.2.2.1,(r.2.2.2.2.2.2.2.1,r.2.2.2.2.2.2.2.2)))))))))::([]:List Bnd)))) fun x40 =>
 bif (decide ((List.length x40)≤(List.length x40))) then
 some (Sum.inl ((Go.IntKind.wrap .i64 (v34+(1:Int))),(List.take (List.length x40) x40)))
 else none
 else none
 else none
 else
 bif (decide ((List.length v35)≤(List.length v35))) then
 some (Sum.inl ((Go.IntKind.wrap .i64 (v34+(1:Int))),(List.take (List.length v35) v35)))
 else none
 else
 bif (decide (x37≠(0:Int))) then
 bindO (some (Go.IntKind.wrap .i64 (a6+(Go.IntKind.wrap .i64 ((1000:Int)*x37))))) fun x44 =>
 bif (decide ((List.length v35)≤(List.length v35))) then
 bif (decide (((List.length ((List.take (List.length v35) v35)++((r.1,(x36.1,(x36.2.1,(x44,(a7,(r.2.1,(r.2.2.1,(r.2.2.2.2.2.2.1,(r.2.2.2.2.2.2.2.1,r.2.2.2.2.2.2.2.2)))))))))::([]:List Bnd))))*128)≤140737488355328)) then
 bindO (some ((List.take (List.length v35) v35)++((r.1,(x36.1,(x36.2.1,(x44,(a7,(r.2.1,(r.2.2.1,(r.2.2.2.2.2.2.1,(r.2.2.2.2.2.2.2.1,r.2.2.2.2.2.2.2.2)))))))))::([]:List Bnd)))) fun x45 =>
 bif (decide ((List.length x45)≤(List.length x45))) then
 some (Sum.inl ((Go.IntKind.wrap .i64 (v34+(1:Int))),(List.take (List.length x45) x45)))
 else none
 else none
 else none
 else
 bif (decide ((List.length v35)≤(List.length v35))) then
 some (Sum.inl ((Go.IntKind.wrap .i64 (v34+(1:Int))),(List.take (List.length v35) v35)))
 else none
 else none
 else
 outO (bif (decide ((List.length v35)≤(List.length v35))) then
 some (Sum.inl (List.take (List.length v35) v35))
 else none))
noncomputable def upC {δ:Type} (v48:List Bnd) (r:Rg9):(Int×Int)→Option ((Int×Int) ⊕ (Int ⊕ δ)) :=
(fun (v49,v50) =>
 bif (decide (v49<(((List.length v48):Nat):Int))) then
 bif (decide (((0:Int)≤v49)∧(v49<(((List.length v48):Nat):Int)))) then
 bindO v48[(Int.toNat v49)]? fun x51 =>
 bif (decide (x51.1=r.1)) then
 some (Sum.inl ((Go.IntKind.wrap .i64 (v49+(1:Int))),(Go.IntKind.wrap .i64 (v50+(1:Int)))))
 else
 some (Sum.inl ((Go.IntKind.wrap .i64 (v49+(1:Int))),v50))
 else none
 else
 outO (some (Sum.inl v50)))
theorem up_eq (c:Cf) (a5:List Bnd) (a6 a7:Int) (r:Rg9):registrar_Update (c,(a5,(a6,(a7,r)))) =
 joinO (bindO (registrar_Valid c) fun x17 =>
  bif (!x17) then
   outO (some (([]:List Bnd),(2:Int)))
  else
   bindO (registrar_Formed r) fun x18 =>
   bif (!x18) then
    outO (some (([]:List Bnd),(2:Int)))
   else
    bif (decide (a6<(0:Int))) then
     outO (some (([]:List Bnd),(2:Int)))
    else
     bif (decide (a6 > (1099511627776:Int))) then
      outO (some (([]:List Bnd),(2:Int)))
     else
      bif (decide (a7<(0:Int))) then
       outO (some (([]:List Bnd),(2:Int)))
      else
       some (Sum.inl ())) fun _ =>
 joinO (loopO (upA a5 a6 r) ((0:Int),(Bool.false,([]:List Bnd)))) fun (v32,v33) =>
 bif v32 then
  some (([]:List Bnd),(13:Int))
 else
  joinO (bif (decide ((List.length v33)≤(List.length v33))) then
   loopO (upB c a6 a7 r) ((0:Int),(List.take (List.length v33) v33))
   else none) fun v48 =>
  joinO (loopO (upC v48 r) ((0:Int),(0:Int))) fun v55 =>
  bif (decide (v55 > c.2.2.2)) then
   some (([]:List Bnd),(10:Int))
  else
   bif (decide ((List.length v48)≤(List.length v48))) then
    bindO (registrar_copyOf (List.take (List.length v48) v48)) fun x56 =>
    some (x56,(0:Int))
   else none:=rfl
noncomputable def urA (a5:List Bnd) (a6:Int) (r:Rg9):(Int)→Option ((Int) ⊕ (Unit ⊕ (List Bnd×Int))) :=
(fun v20 =>
 bif (decide (v20<(((List.length a5):Nat):Int))) then
 bif (decide (((0:Int)≤v20)∧(v20<(((List.length a5):Nat):Int)))) then
 bindO a5[(Int.toNat v20)]? fun x21 =>
 bindO (dialtoneref22_touches (r,(x21,a6))) fun x22 =>
 bif x22 then
 bif (decide (((0:Int)≤v20)∧(v20<(((List.length a5):Nat):Int)))) then
 bindO a5[(Int.toNat v20)]? fun x23 =>
 bif (decide (x23.2.2.2.2.2.1=r.2.1)) then
 bif (decide (((0:Int)≤v20)∧(v20<(((List.length a5):Nat):Int)))) then
 bindO a5[(Int.toNat v20)]? fun x24 =>
 bif (decide (x24.2.2.2.2.2.2.1≥r.2.2.1)) then
 outO (outO (some (([]:List Bnd),(13:Int))))
 else
 some (Sum.inl (Go.IntKind.wrap .i64 (v20+(1:Int))))
 else none
 else
 some (Sum.inl (Go.IntKind.wrap .i64 (v20+(1:Int))))
 else none
 else
 some (Sum.inl (Go.IntKind.wrap .i64 (v20+(1:Int))))
 else none
 else
 outO (some (Sum.inl ())))
noncomputable def urB (c:Cf) (r:Rg9):(Int)→Option ((Int) ⊕ (Unit ⊕ (List Bnd×Int))) :=
(fun v28 =>
 bif (decide (v28<(((List.length (rCs r)):Nat):Int))) then
 bif (decide (((0:Int)≤v28)∧(v28<(((List.length (rCs r)):Nat):Int)))) then
 bindO (rCs r)[(Int.toNat v28)]? fun x29 =>
 bindO (dialtoneref22_Expiry (c,(r,x29))) fun x30 =>
 bif (decide (x30 > (0:Int))) then
 bif (decide (x30<c.1)) then
 outO (outO (some (([]:List Bnd),(16:Int))))
 else
 some (Sum.inl (Go.IntKind.wrap .i64 (v28+(1:Int))))
 else
 some (Sum.inl (Go.IntKind.wrap .i64 (v28+(1:Int))))
 else none
 else
 outO (some (Sum.inl ())))
noncomputable def urC {δ:Type} (a5:List Bnd) (a6:Int) (r:Rg9):(Int×List Bnd)→Option ((Int×List Bnd) ⊕ (List Bnd ⊕ δ)) :=
(fun (v33,v34) =>
 bif (decide (v33<(((List.length a5):Nat):Int))) then
 bif (decide (((0:Int)≤v33)∧(v33<(((List.length a5):Nat):Int)))) then
 bindO a5[(Int.toNat v33)]? fun x35 =>
 bif (decide (x35.1≠r.1)) then
 bif (decide (((0:Int)≤v33)∧(v33<(((List.length a5):Nat):Int)))) then
 bindO a5[(Int.toNat v33)]? fun x36 =>
 bif (decide ((List.length v34)≤(List.length v34))) then
 bif (decide (((List.length ((List.take (List.length v34) v34)++(x36::([]:List Bnd))))*128)≤140737488355328)) then
 bindO (some ((List.take (List.length v34) v34)++(x36::([]:List Bnd)))) fun x37 =>
 bif (decide ((List.length x37)≤(List.length x37))) then
 some (Sum.inl ((Go.IntKind.wrap .i64 (v33+(1:Int))),(List.take (List.length x37) x37)))
 else none
 else none
 else none
 else none
 else
 bif (decide (((0:Int)≤v33)∧(v33<(((List.length a5):Nat):Int)))) then
 bindO a5[(Int.toNat v33)]? fun x39 =>
 bif (decide (x39.2.2.2.1 > a6)) then
 bif (decide (((0:Int)≤v33)∧(v33<(((List.length a5):Nat):Int)))) then
 bindO a5[(Int.toNat v33)]? fun x40 =>
 bindO (dialtoneref22_touches (r,(x40,a6))) fun x41 =>
 bif (!x41) then
 bif (decide (((0:Int)≤v33)∧(v33<(((List.length a5):Nat):Int)))) then
 bindO a5[(Int.toNat v33)]? fun x42 =>
 bif (decide ((List.length v34)≤(List.length v34))) then
 bif (decide (((List.length ((List.take (List.length v34) v34)++(x42::([]:List Bnd))))*128)≤140737488355328)) then
 bindO (some ((List.take (List.length v34) v34)++(x42::([]:List Bnd)))) fun x43 =>
 bif (decide ((List.length x43)≤(List.length x43))) then
 some (Sum.inl ((Go.IntKind.wrap .i64 (v33+(1:Int))),(List.take (List.length x43) x43)))
 else none
 else none
 else none
 else none
 else
 bif (decide ((List.length v34)≤(List.length v34))) then
 some (Sum.inl ((Go.IntKind.wrap .i64 (v33+(1:Int))),(List.take (List.length v34) v34)))
 else none
 else none
 else
 bif (decide ((List.length v34)≤(List.length v34))) then
 some (Sum.inl ((Go.IntKind.wrap .i64 (v33+(1:Int))),(List.take (List.length v34) v34)))
 else none
 else none
 else none
 else
 outO (bif (decide ((List.length v34)≤(List.length v34))) then
 some (Sum.inl (List.take (List.length v34) v34))
 else none))
noncomputable def urD {δ:Type} (c:Cf) (a6 a7:Int) (r:Rg9):(Int×List Bnd)→Option ((Int×List Bnd) ⊕ (List Bnd ⊕ δ)) :=
(fun (v48,v49) =>
 bif (decide (v48<(((List.length (rCs r)):Nat):Int))) then
 bif (decide (((0:Int)≤v48)∧(v48<(((List.length (rCs r)):Nat):Int)))) then
 bindO (rCs r)[(Int.toNat v48)]? fun x50 =>
 bindO (dialtoneref22_Expiry (c,(r,x50))) fun x51 =>
 bif (decide (x51 > (0:Int))) then
 bindO (dialtoneref22_Expiry (c,(r,x50))) fun x52 =>
 bindO (some (Go.IntKind.wrap .i64 (a6+(Go.IntKind.wrap .i64 ((1000:Int)*x52))))) fun x54 =>
 bif (decide ((List.length v49)≤(List.length v49))) then
 bif (decide (((List.length ((List.take (List.length v49) v49)++((r.1,(x50.1,(x50.2.1,(x54,(a7,(r.2.1,(r.2.2.1,(r.2.2.2.2.2.2.1,(r.2.2.2.2.2.2.2.1,r.2.2.2.2.2.2.2.2)))))))))::([]:List Bnd))))*128)≤140737488355328)) then
 bindO (some ((List.take (List.length v49) v49)++((r.1,(x50.1,(x50.2.1,(x54,(a7,(r.2.1,(r.2.2.1,(r.2.2.2.2.2.2.1,(r.2.2.2.2.2.2.2.1,r.2.2.2.2.2.2.2.2)))))))))::([]:List Bnd)))) fun x55 =>
 bif (decide ((List.length x55)≤(List.length x55))) then
 some (Sum.inl ((Go.IntKind.wrap .i64 (v48+(1:Int))),(List.take (List.length x55) x55)))
 else none
 else none
 else none
 else
 bif (decide ((List.length v49)≤(List.length v49))) then
 some (Sum.inl ((Go.IntKind.wrap .i64 (v48+(1:Int))),(List.take (List.length v49) v49)))
 else none
 else none
 else
 outO (bif (decide ((List.length v49)≤(List.length v49))) then
 some (Sum.inl (List.take (List.length v49) v49))
 else none))
theorem ur_eq (c:Cf) (a5:List Bnd) (a6 a7:Int) (r:Rg9):dialtoneref22_Update (c,(a5,(a6,(a7,r)))) =
 joinO (bindO (dialtoneref22_Valid c) fun x17 =>
  bif (!x17) then
   outO (some (([]:List Bnd),(2:Int)))
  else
   bindO (dialtoneref22_Formed r) fun x18 =>
   bif (!x18) then
    outO (some (([]:List Bnd),(2:Int)))
   else
    bindO (dialtoneref22_within (a6,((0:Int),(1099511627776:Int)))) fun x19 =>
    bif (!x19) then
     outO (some (([]:List Bnd),(2:Int)))
    else
     bif (decide (a7<(0:Int))) then
      outO (some (([]:List Bnd),(2:Int)))
     else
      some (Sum.inl ())) fun _ =>
 joinO (loopO (urA a5 a6 r) (0:Int)) fun _ =>
 joinO (loopO (urB c r) (0:Int)) fun _ =>
 joinO (loopO (urC a5 a6 r) ((0:Int),([]:List Bnd))) fun v47 =>
 joinO (bif (decide ((List.length v47)≤(List.length v47))) then
  loopO (urD c a6 a7 r) ((0:Int),(List.take (List.length v47) v47))
  else none) fun v58 =>
 bif (decide ((List.length v58)≤(List.length v58))) then
  bindO (dialtoneref22_Live ((List.take (List.length v58) v58),(a6,r.1))) fun x59 =>
  bif (decide (x59 > c.2.2.2)) then
   some (([]:List Bnd),(10:Int))
  else
   bif (decide ((List.length v58)≤(List.length v58))) then
    some ((List.take (List.length v58) v58),(0:Int))
   else none
 else none:=rfl
noncomputable def smS (a1 a2:List Bnd):(Int)→Option ((Int) ⊕ (Unit ⊕ Bool)) :=
(fun v3 =>
 bif (decide (v3<(((List.length a1):Nat):Int))) then
 bif (decide (((0:Int)≤v3)∧(v3<(((List.length a1):Nat):Int)))) then
 bindO a1[(Int.toNat v3)]? fun x4 =>
 bif (decide (((0:Int)≤v3)∧(v3<(((List.length a2):Nat):Int)))) then
 bindO a2[(Int.toNat v3)]? fun x5 =>
 bif (decide (x4.1≠x5.1)) then
 outO (outO (some Bool.false))
 else
 bif (decide (x4.2.1≠x5.2.1)) then
 outO (outO (some Bool.false))
 else
 bif (decide (x4.2.2.1≠x5.2.2.1)) then
 outO (outO (some Bool.false))
 else
 bif (decide (x4.2.2.2.1≠x5.2.2.2.1)) then
 outO (outO (some Bool.false))
 else
 bif (decide (x4.2.2.2.2.1≠x5.2.2.2.2.1)) then
 outO (outO (some Bool.false))
 else
 bif (decide (x4.2.2.2.2.2.1≠x5.2.2.2.2.2.1)) then
 outO (outO (some Bool.false))
 else
 bif (decide (x4.2.2.2.2.2.2.1≠x5.2.2.2.2.2.2.1)) then
 outO (outO (some Bool.false))
 else
 bif (decide (x4.2.2.2.2.2.2.2.1≠x5.2.2.2.2.2.2.2.1)) then
 outO (outO (some Bool.false))
 else
 bif (decide (x4.2.2.2.2.2.2.2.2.1≠x5.2.2.2.2.2.2.2.2.1)) then
 outO (outO (some Bool.false))
 else
 bindO (dialtoneref22_strings (x4.2.2.2.2.2.2.2.2.2,x5.2.2.2.2.2.2.2.2.2)) fun x6 =>
 bif (!x6) then
 outO (outO (some Bool.false))
 else
 some (Sum.inl (Go.IntKind.wrap .i64 (v3+(1:Int))))
 else none
 else none
 else
 outO (some (Sum.inl ())))
theorem sa_eq (a1 a2:List Bnd):dialtoneref22_Same (a1,a2) =
 bif (decide ((((List.length a1):Nat):Int)≠(((List.length a2):Nat):Int))) then
  some Bool.false
 else
  joinO (loopO (smS a1 a2) (0:Int)) fun _ =>
  some Bool.true:=rfl
noncomputable def k3B {δ:Type} (x21 x22 x23:Int):(Int)→Option ((Int) ⊕ (Unit ⊕ (Int ⊕ δ))) :=
(fun v24 =>
 bif (decide (v24<(3:Int))) then
 bif (decide (((0:Int)≤v24)∧(v24<(3:Int)))) then
 bindO (x21::(x22::(x23::([]:List Int))))[(Int.toNat v24)]? fun x25 =>
 bif (decide (x25≠(0:Int))) then
 outO (outO (some (Sum.inl x25)))
 else
 some (Sum.inl (Go.IntKind.wrap .i64 (v24+(1:Int))))
 else none
 else
 outO (some (Sum.inl ())))
theorem k3_eq (a b:Bnd):registrar_Lookup_1 (a,b) =
 bindO (cmp_Compare_int (b.2.2.1,a.2.2.1)) fun x21 =>
 bindO (cmp_Compare_int (b.2.2.2.2.1,a.2.2.2.2.1)) fun x22 =>
 bindO (cmp_Compare_string (a.2.1,b.2.1)) fun x23 =>
 joinO (joinO (loopO (k3B x21 x22 x23) (0:Int)) fun _ =>
  some (Sum.inl (0:Int))) fun v27 =>
 some v27:=rfl
end Go.Proofs.Ytlaccfegaoaakaa

set_option maxRecDepth 100000
set_option maxHeartbeats 2000000
namespace Go.Proofs.Ytlaccfegaoaakaa
open Go.RowKit
noncomputable def tf (p:Prop):Bool:=@decide p (Classical.propDecidable p)
theorem tf_t {p:Prop} (h:p):tf p=true:=by unfold tf;exact @decide_eq_true p (Classical.propDecidable p) h
theorem tf_f {p:Prop} (h:¬p):tf p=false:=by unfold tf;exact @decide_eq_false p (Classical.propDecidable p) h
theorem tf_iff {p:Prop}:tf p=true↔p:=by
 constructor
 ·intro h
  by_cases k:p
  ·exact k
  ·rw [tf_f k] at h;cases h
 ·exact tf_t
theorem tf_congr {p q:Prop} (h:p↔q):tf p=tf q:=by
 by_cases k:p
 ·rw [tf_t k,tf_t (h.1 k)]
 ·rw [tf_f k,tf_f (fun g=>k (h.2 g))]
theorem dec_tf {p:Prop} [Decidable p]:decide p=tf p:=by
 by_cases k:p
 ·rw [tf_t k,decide_eq_true k]
 ·rw [tf_f k,decide_eq_false k]
theorem Is.tf {o:Option Bool} {P:Prop} (h:Is o P):o=Option.some (Go.Proofs.Ytlaccfegaoaakaa.tf P):=by
 rcases h with ⟨h,e⟩ | ⟨h,e⟩
 ·rw [e,tf_t h]
 ·rw [e,tf_f h]
def VC (c:Cf):Prop:=1≤c.1∧c.1≤c.2.1∧c.2.1≤c.2.2.1∧c.2.2.1≤10000000∧1≤c.2.2.2∧c.2.2.2≤100
theorem vc_j (c:Cf):registrar_Valid c=some (tf (VC c)):=by
 obtain ⟨a,b,d,e⟩:=c
 unfold registrar_Valid VC
 by_cases h1:1≤a
 ·by_cases h2:a≤b
  ·by_cases h3:b≤d
   ·by_cases h4:d≤10000000
    ·by_cases h5:1≤e
     ·simp (disch:=omega) only [↓SDl,SDr,if_pos]
      congr 1
      rw [dec_tf];exact tf_congr ⟨fun h=>⟨h1,h2,h3,h4,h5,h⟩,fun h=>h.2.2.2.2.2⟩
     ·simp (disch:=omega) only [↓SDl,SDr,if_pos,if_neg]
      rw [tf_f];omega
    ·simp (disch:=omega) only [↓SDl,SDr,if_pos,if_neg]
     rw [tf_f];omega
   ·simp (disch:=omega) only [↓SDl,SDr,if_pos,if_neg]
    rw [tf_f];omega
  ·simp (disch:=omega) only [↓SDl,SDr,if_pos,if_neg]
   rw [tf_f];omega
 ·simp (disch:=omega) only [↓SDl,SDr,if_neg]
  rw [tf_f];omega
theorem vcR_j (c:Cf):dialtoneref22_Valid c=some (tf (VC c)):=by
 obtain ⟨a,b,d,e⟩:=c
 obtain ⟨v,h1,h2⟩:=valid_same a b d e
 rw [h2,←h1];exact vc_j _
theorem fm_j (r:Rg9):registrar_Formed r=some (tf (FMr r)):=(formedP_j r.1 r.2.1 r.2.2.1 r.2.2.2.1 r.2.2.2.2.1 r.2.2.2.2.2.1 r.2.2.2.2.2.2.1 r.2.2.2.2.2.2.2.1 r.2.2.2.2.2.2.2.2).tf
theorem fmR_j (r:Rg9):dialtoneref22_Formed r=some (tf (FMr r)):=(formed_same r.1 r.2.1 r.2.2.1 r.2.2.2.1 r.2.2.2.2.1 r.2.2.2.2.2.1 r.2.2.2.2.2.2.1 r.2.2.2.2.2.2.2.1 r.2.2.2.2.2.2.2.2).trans (fm_j r)
theorem rng_j (n:Int):dialtoneref22_within (n,((0:Int),(1099511627776:Int)))=some (tf (0≤n∧n≤1099511627776)):=by
 have:=withinR_b (β:=Bool) n 0 1099511627776 some
 unfold bindO at this
 cases h:dialtoneref22_within (n,((0:Int),(1099511627776:Int))) with
 | none=>rw [h] at this;cases this
 | some b=>rw [h] at this;rw [dec_tf] at this;exact this
def Tch (r:Rg9) (b:Bnd):Prop:=r.2.2.2.1=true∨∃i,i<(rCs r).length∧(((rCs r).getD i c0).1=b.2.1∨(r.2.2.2.2.2.2.2.1≠0∧b.2.2.2.2.2.2.2.2.1=r.2.2.2.2.2.2.2.1∧b.2.2.2.2.2.2.2.1=r.2.2.2.2.2.2.1))
theorem touch_j (r:Rg9) (b:Bnd) (hl:(rCs r).length≤1000):registrar_touches (r,b)=some (tf (Tch r b)):=by
 rw [to_eq]
 have fin:∀(body:Int→Option (Int ⊕ (Unit ⊕ (Int ⊕ Bool)))) (p:Nat→Prop),(∀i:Nat,i<(rCs r).length→¬p i→body (i:Int)=some (.inl ((i+1:Nat):Int)))→(∀i:Nat,i<(rCs r).length→p i→body (i:Int)=some (.inr (.inr (.inl (i:Int)))))→body ((rCs r).length:Int)=some (.inr (.inl ())) →
  (joinO (joinO (loopO body (0:Int)) fun _=>(some (Sum.inl (-1:Int)):Option (Int ⊕ Bool))) fun v=>some (decide (v≥0)))=some (tf (∃i,i<(rCs r).length∧p i)):=fun body p h1 h2 h3=>by
  rcases loop_first (rCs r).length p (fun i=>(.inr (.inl (i:Int)):Unit ⊕ (Int ⊕ Bool))) (.inl ()) h1 h2 h3 with ⟨i,k1,k2,_,e⟩ | ⟨k,e⟩
  ·rw [e,joinO_inr,joinO_inl,decide_eq_true (show ((i:Int)≥0) by omega),tf_t ⟨i,k1,k2⟩]
  ·rw [e,joinO_inl,joinO_inl,decide_eq_false (by omega),tf_f (fun ⟨i,k1,k2⟩=>k i k1 k2)]
 cases hs:r.2.2.2.1 with
 | true =>
   rw [cond_true,tf_t (show Tch r b from .inl hs)]
 | false =>
   rw [cond_false]
   have hT:Tch r b↔∃i,i<(rCs r).length∧(((rCs r).getD i c0).1=b.2.1∨(r.2.2.2.2.2.2.2.1≠0∧b.2.2.2.2.2.2.2.2.1=r.2.2.2.2.2.2.2.1∧b.2.2.2.2.2.2.2.1=r.2.2.2.2.2.2.1)):=by
    unfold Tch;rw [hs];simp
   rw [tf_congr hT]
   have hn:∀i:Nat,((i:Int)+1)=((i+1:Nat):Int):=fun i=>rfl
   by_cases hf:r.2.2.2.2.2.2.2.1≠0
   ·rw [cond_ite,if_pos hf]
    by_cases hg:b.2.2.2.2.2.2.2.2.1=r.2.2.2.2.2.2.2.1
    ·rw [cond_ite,if_pos hg]
     refine fin _ _ (fun i hi hp => ?_) (fun i hi hp => ?_) ?_
     ·obtain ⟨x,hx,hxb⟩:=get_at c0 hi
      rw [hx] at hp
      have p1:¬x.1=b.2.1:=fun h=>hp (.inl h)
      have p2:¬b.2.2.2.2.2.2.2.1=r.2.2.2.2.2.2.1:=fun h=>hp (.inr ⟨hf,hg,h⟩)
      unfold toA
      simp (disch:=(first | omega | (simp only [LNl];omega))) only [↓SDl,SDr,if_pos,if_neg,↓hxb,p1,p2,wrap_i64',hn,not_false_eq_true]
     ·obtain ⟨x,hx,hxb⟩:=get_at c0 hi
      rw [hx] at hp
      unfold toA
      by_cases p1:x.1=b.2.1
      ·simp (disch:=(first | omega | (simp only [LNl];omega))) only [↓SDl,SDr,if_pos,if_neg,↓hxb,p1]
      ·have p2:b.2.2.2.2.2.2.2.1=r.2.2.2.2.2.2.1:=(hp.resolve_left p1).2.2
       simp (disch:=(first | omega | (simp only [LNl];omega))) only [↓SDl,SDr,if_pos,if_neg,↓hxb,p1,p2]
     ·unfold toA
      simp (disch:=(first | omega | (simp only [LNl];omega))) only [↓SDl,SDr,if_neg]
    ·rw [cond_ite,if_neg hg]
     refine fin _ _ (fun i hi hp => ?_) (fun i hi hp => ?_) ?_
     ·obtain ⟨x,hx,hxb⟩:=get_at c0 hi
      rw [hx] at hp
      have p1:¬x.1=b.2.1:=fun h=>hp (.inl h)
      unfold toC
      simp (disch:=(first | omega | (simp only [LNl];omega))) only [↓SDl,SDr,if_pos,if_neg,↓hxb,p1,wrap_i64',hn,not_false_eq_true]
     ·obtain ⟨x,hx,hxb⟩:=get_at c0 hi
      rw [hx] at hp
      have p1:x.1=b.2.1:=hp.resolve_right (fun h=>hg h.2.1)
      unfold toC
      simp (disch:=(first | omega | (simp only [LNl];omega))) only [↓SDl,SDr,if_pos,if_neg,↓hxb,p1]
     ·unfold toC
      simp (disch:=(first | omega | (simp only [LNl];omega))) only [↓SDl,SDr,if_neg]
   ·rw [cond_ite,if_neg hf]
    refine fin _ _ (fun i hi hp => ?_) (fun i hi hp => ?_) ?_
    ·obtain ⟨x,hx,hxb⟩:=get_at c0 hi
     rw [hx] at hp
     have p1:¬x.1=b.2.1:=fun h=>hp (.inl h)
     unfold toD
     simp (disch:=(first | omega | (simp only [LNl];omega))) only [↓SDl,SDr,if_pos,if_neg,↓hxb,p1,wrap_i64',hn,not_false_eq_true]
    ·obtain ⟨x,hx,hxb⟩:=get_at c0 hi
     rw [hx] at hp
     have p1:x.1=b.2.1:=hp.resolve_right (fun h=>hf h.1)
     unfold toD
     simp (disch:=(first | omega | (simp only [LNl];omega))) only [↓SDl,SDr,if_pos,if_neg,↓hxb,p1]
    ·unfold toD
     simp (disch:=(first | omega | (simp only [LNl];omega))) only [↓SDl,SDr,if_neg]
theorem touchR_j (r:Rg9) (b:Bnd) (now:Int) (hl:(rCs r).length≤1000):dialtoneref22_touches (r,(b,now))=some (tf ((b.1=r.1∧now<b.2.2.2.1)∧Tch r b)):=by
 rw [tr_eq]
 by_cases h1:b.1=r.1
 ·by_cases h2:now<b.2.2.2.1
  ·have hd:tf ((b.1=r.1∧now<b.2.2.2.1)∧Tch r b)=tf (Tch r b):=tf_congr ⟨fun h=>h.2,fun h=>⟨⟨h1,h2⟩,h⟩⟩
   rw [hd]
   simp (disch:=omega) only [↓SDl,SDr,h1,ne_eq,not_true_eq_false,decide_false,if_neg]
   cases hs:r.2.2.2.1 with
   | true=>rw [cond_true,tf_t (show Tch r b from .inl hs)]
   | false =>
     rw [cond_false]
     have hT:Tch r b↔∃i,i<(rCs r).length∧(((rCs r).getD i c0).1=b.2.1∨(r.2.2.2.2.2.2.2.1≠0∧b.2.2.2.2.2.2.2.2.1=r.2.2.2.2.2.2.2.1∧b.2.2.2.2.2.2.2.1=r.2.2.2.2.2.2.1)):=by
      unfold Tch;rw [hs];simp
     rw [tf_congr hT]
     have hn:∀i:Nat,((i:Int)+1)=((i+1:Nat):Int):=fun i=>rfl
     refine Or.elim (loop_first (body:=trB r b) (rCs r).length (fun i=>(((rCs r).getD i c0).1=b.2.1∨(r.2.2.2.2.2.2.2.1≠0∧b.2.2.2.2.2.2.2.2.1=r.2.2.2.2.2.2.2.1∧b.2.2.2.2.2.2.2.1=r.2.2.2.2.2.2.1))) (fun i => .inr true) (.inl ()) (fun i hi hp => ?_) (fun i hi hp => ?_) ?_) (fun ⟨i,k1,k2,_,e⟩ => ?_) (fun ⟨k,e⟩ => ?_)
     ·obtain ⟨x,hx,hxb⟩:=get_at c0 hi
      rw [hx] at hp
      have p1:¬x.1=b.2.1:=fun h=>hp (.inl h)
      unfold trB
      by_cases q1:r.2.2.2.2.2.2.2.1=0
      ·simp (disch:=(first | omega | (simp only [LNl];omega))) only [↓SDl,SDr,if_pos,if_neg,↓hxb,p1,q1,ne_eq,not_true_eq_false,decide_false,wrap_i64',hn]
      ·by_cases q2:r.2.2.2.2.2.2.1=b.2.2.2.2.2.2.2.1
       ·have q3:¬r.2.2.2.2.2.2.2.1=b.2.2.2.2.2.2.2.2.1:=fun h=>hp (.inr ⟨q1,h.symm,q2.symm⟩)
        simp (disch:=(first | omega | (simp only [LNl];omega))) only [↓SDl,SDr,if_pos,if_neg,↓hxb,p1,q1,q2,q3,ne_eq,not_false_eq_true,wrap_i64',hn]
       ·simp (disch:=(first | omega | (simp only [LNl];omega))) only [↓SDl,SDr,if_pos,if_neg,↓hxb,p1,q1,q2,ne_eq,not_false_eq_true,wrap_i64',hn]
     ·obtain ⟨x,hx,hxb⟩:=get_at c0 hi
      rw [hx] at hp
      unfold trB
      by_cases p1:x.1=b.2.1
      ·simp (disch:=(first | omega | (simp only [LNl];omega))) only [↓SDl,SDr,if_pos,if_neg,↓hxb,p1]
      ·obtain ⟨q1,q2,q3⟩:=hp.resolve_left p1
       simp (disch:=(first | omega | (simp only [LNl];omega))) only [↓SDl,SDr,if_pos,if_neg,↓hxb,p1,q1,q2.symm,q3.symm,ne_eq,not_false_eq_true]
     ·unfold trB
      simp (disch:=(first | omega | (simp only [LNl];omega))) only [↓SDl,SDr,if_neg]
     ·rw [e,joinO_inr,tf_t ⟨i,k1,k2⟩]
     ·rw [e,joinO_inl,tf_f (fun ⟨i,k1,k2⟩=>k i k1 k2)]
  ·rw [tf_f (fun h=>h2 h.1.2)]
   simp (disch:=omega) only [↓SDl,SDr,h1,ne_eq,not_true_eq_false,decide_false,if_pos]
 ·rw [tf_f (fun h=>h1 h.1.1)]
  simp (disch:=omega) only [↓SDl,SDr,h1,ne_eq,not_false_eq_true,if_pos]
def expy (c:Cf) (r:Rg9) (x:Ct):Int:=minA (if x.2.2 ≠ -1 then x.2.2 else if r.2.2.2.2.2.1 ≠ -1 then r.2.2.2.2.2.1 else c.2.1) c.2.2.1
theorem exp_j (c:Cf) (r:Rg9) (x:Ct):registrar_expiry (c,(r,x))=some (expy c r x):=by
 show (bif decide (x.2.2 ≠ -1) then some (minA x.2.2 c.2.2.1) else bif decide (r.2.2.2.2.2.1 ≠ -1) then some (minA r.2.2.2.2.2.1 c.2.2.1) else some (minA c.2.1 c.2.2.1))=_
 unfold expy
 by_cases h1:x.2.2 = -1
 ·by_cases h2:r.2.2.2.2.2.1 = -1
  ·simp [h1,h2]
  ·simp [h1,h2]
 ·simp [h1]
theorem expR_j (c:Cf) (r:Rg9) (x:Ct):dialtoneref22_Expiry (c,(r,x))=some (expy c r x):=by
 show (bif decide (x.2.2 = -1) then bif decide (r.2.2.2.2.2.1 = -1) then some (minA c.2.1 c.2.2.1) else some (minA r.2.2.2.2.2.1 c.2.2.1) else bif decide (x.2.2 = -1) then some (minA c.2.1 c.2.2.1) else some (minA x.2.2 c.2.2.1))=_
 unfold expy
 by_cases h1:x.2.2 = -1
 ·by_cases h2:r.2.2.2.2.2.1 = -1
  ·simp [h1,h2]
  ·simp [h1,h2]
 ·simp [h1]
theorem exp_b {c:Cf} {r:Rg9} {x:Ct} (hv:VC c) (hr:NO r.2.2.2.2.2.1) (hx:NO x.2.2):0≤expy c r x∧expy c r x≤10000000:=by
 obtain ⟨v1,v2,v3,v4,_⟩:=hv
 unfold expy minA
 split<;>split<;>(try split)<;>omega
theorem filter_snoc {α:Type} (l:List α) (d:α) (p:α→Bool) {i:Nat} (h:i<l.length):(l.take (i+1)).filter p=if p (l.getD i d)=true then (l.take i).filter p++[l.getD i d] else (l.take i).filter p:=by
 rw [take_snoc l d h,List.filter_append]
 cases hp:p (l.getD i d) with
 | true=>rw [if_pos rfl];congr 1;simp only [List.filter,hp]
 | false=>rw [if_neg (by decide)];simp only [List.filter,hp,List.append_nil]
def KeepB (r:Rg9) (now:Int) (b:Bnd):Prop:=b.1≠r.1∨(now<b.2.2.2.1∧¬Tch r b)
def StaleB (r:Rg9) (now:Int) (b:Bnd):Prop:=(b.1=r.1∧now<b.2.2.2.1)∧Tch r b∧b.2.2.2.2.2.1=r.2.1∧r.2.2.1≤b.2.2.2.2.2.2.1
def mkB (c:Cf) (now num:Int) (r:Rg9) (x:Ct):Bnd:=(r.1,(x.1,(x.2.1,(now+1000*expy c r x,(num,(r.2.1,(r.2.2.1,(r.2.2.2.2.2.2.1,(r.2.2.2.2.2.2.2.1,r.2.2.2.2.2.2.2.2)))))))))
noncomputable def newB (c:Cf) (now num:Int) (r:Rg9) (l:List Ct):List Bnd:=(l.filter fun x=>decide (expy c r x≠0)).map (mkB c now num r)
noncomputable def keptB (r:Rg9) (now:Int) (l:List Bnd):List Bnd:=l.filter fun b=>tf (KeepB r now b)
noncomputable def OutB (c:Cf) (l:List Bnd) (now num:Int) (r:Rg9):List Bnd:=keptB r now l++newB c now num r (rCs r)
noncomputable def UPD (c:Cf) (l:List Bnd) (now num:Int) (r:Rg9):List Bnd×Int :=
 bif !tf (VC c∧FMr r∧0≤now∧now≤1099511627776∧0≤num) then ([],2)
 else bif tf (∃i,i<l.length∧StaleB r now (l.getD i dB)) then ([],13)
 else bif tf (∃i,i<(rCs r).length∧0<expy c r ((rCs r).getD i c0)∧expy c r ((rCs r).getD i c0)<c.1) then ([],16)
 else bif tf (c.2.2.2<(((OutB c l now num r).filter fun b=>decide (b.1=r.1)).length:Int)) then ([],10)
 else (OutB c l now num r,0)
end Go.Proofs.Ytlaccfegaoaakaa

set_option maxRecDepth 100000
set_option maxHeartbeats 2000000
namespace Go.Proofs.Ytlaccfegaoaakaa
open Go.RowKit
theorem snoc_ex {α:Type} (l:List α) (d:α) (P:α→Prop) {i:Nat}:(∃j,j<i+1∧P (l.getD j d))↔(∃j,j<i∧P (l.getD j d))∨P (l.getD i d):=by
 constructor
 ·rintro ⟨j,h1,h2⟩
  by_cases e:j=i
  ·subst e;exact .inr h2
  ·exact .inl ⟨j,by omega,h2⟩
 ·rintro (⟨j,h1,h2⟩ | h)
  ·exact ⟨j,by omega,h2⟩
  ·exact ⟨i,by omega,h⟩
theorem tf_or_t {p q:Prop} (h:q):tf (p∨q)=true:=tf_t (.inr h)
theorem tf_or_f {p q:Prop} (h:¬q):tf (p∨q)=tf p:=tf_congr ⟨fun k=>k.resolve_right h,.inl⟩
section
variable (l:List Bnd) (now:Int) (r:Rg9) (hl:l.length≤100000) (hr:(rCs r).length≤1000)
include hl hr
theorem upA_j {δ:Type}:loopO (upA (δ:=δ) l now r) (0,(false,[]))=some (.inl (tf (∃j,j<l.length∧StaleB r now (l.getD j dB)),keptB r now l)):=by
 have fin:loopO (upA (δ:=δ) l now r) (0,(tf (∃j,j<0∧StaleB r now (l.getD j dB)),keptB r now (l.take 0)))=some (.inl (tf (∃j,j<l.length∧StaleB r now (l.getD j dB)),keptB r now l)):=by
  refine loopO_from (fun i=>((i:Int),(tf (∃j,j<i∧StaleB r now (l.getD j dB)),keptB r now (l.take i)))) l.length rfl (fun i hi => ?_) ?_
  ·obtain ⟨x,hx,hxb⟩:=get_at dB hi
   have hn:((i:Int)+1)=((i+1:Nat):Int):=rfl
   have e1:keptB r now (l.take (i+1))=if tf (KeepB r now x)=true then keptB r now (l.take i)++[x] else keptB r now (l.take i):=by
    unfold keptB;rw [filter_snoc l dB _ hi,hx]
   have e2:tf (∃j,j<i+1∧StaleB r now (l.getD j dB))=tf ((∃j,j<i∧StaleB r now (l.getD j dB))∨StaleB r now x):=by rw [←hx];exact tf_congr (snoc_ex l dB (StaleB r now))
   have lK:(keptB r now (l.take i)).length≤i:=by
    unfold keptB
    exact Nat.le_trans (List.length_filter_le _ _) (by rw [List.length_take];omega)
   rw [e1,e2]
   generalize keptB r now (l.take i)=K at lK ⊢
   generalize (∃j,j<i∧StaleB r now (l.getD j dB))=Q
   unfold upA
   by_cases a1:x.1=r.1
   ·by_cases a2:now<x.2.2.2.1
    ·have ht:=touch_j r x hr
     by_cases a3:Tch r x
     ·have k1:¬KeepB r now x:=fun h=>h.elim (fun h=>h a1) (fun h=>h.2 a3)
      rw [tf_f k1]
      rw [tf_t a3] at ht
      by_cases a4:x.2.2.2.2.2.1=r.2.1
      ·by_cases a5:x.2.2.2.2.2.2.1≥r.2.2.1
       ·rw [tf_or_t (q:=StaleB r now x) ⟨⟨a1,a2⟩,a3,a4,a5⟩]
        simp (disch:=(first | omega | (simp only [LNl];omega))) only [↓SDl,SDr,if_pos,if_neg,↓hxb,a1,a4,ht,ne_eq,not_true_eq_false,decide_false,wrap_i64',hn,Bool.false_eq_true]
       ·rw [tf_or_f (q:=StaleB r now x) (fun h=>a5 h.2.2.2)]
        simp (disch:=(first | omega | (simp only [LNl];omega))) only [↓SDl,SDr,if_pos,if_neg,↓hxb,a1,a4,ht,ne_eq,not_true_eq_false,decide_false,wrap_i64',hn,Bool.false_eq_true]
      ·rw [tf_or_f (q:=StaleB r now x) (fun h=>a4 h.2.2.1)]
       simp (disch:=(first | omega | (simp only [LNl];omega))) only [↓SDl,SDr,if_pos,if_neg,↓hxb,a1,a4,ht,ne_eq,not_true_eq_false,decide_false,wrap_i64',hn,Bool.false_eq_true]
     ·have k1:KeepB r now x := .inr ⟨a2,a3⟩
      rw [tf_t k1,tf_or_f (q:=StaleB r now x) (fun h=>a3 h.2.1)]
      rw [tf_f a3] at ht
      simp (disch:=(first | omega | (simp only [LNl];omega))) only [↓SDl,SDr,if_pos,if_neg,↓hxb,a1,ht,ne_eq,not_true_eq_false,decide_false,wrap_i64',hn]
    ·have k1:¬KeepB r now x:=fun h=>h.elim (fun h=>h a1) (fun h=>a2 h.1)
     rw [tf_f k1,tf_or_f (q:=StaleB r now x) (fun h=>a2 h.1.2)]
     simp (disch:=(first | omega | (simp only [LNl];omega))) only [↓SDl,SDr,if_pos,if_neg,↓hxb,a1,ne_eq,not_true_eq_false,decide_false,wrap_i64',hn,Bool.false_eq_true]
   ·have k1:KeepB r now x := .inl a1
    rw [tf_t k1,tf_or_f (q:=StaleB r now x) (fun h=>a1 h.1.1)]
    simp (disch:=(first | omega | (simp only [LNl];omega))) only [↓SDl,SDr,if_pos,if_neg,↓hxb,a1,ne_eq,not_false_eq_true,decide_true,wrap_i64',hn]
  ·have lK:(keptB r now l).length≤l.length:=List.length_filter_le _ _
   simp only [List.take_length]
   unfold upA
   simp (disch:=(first | omega | (simp only [LNl];omega))) only [↓SDl,SDr,if_neg]
 rw [show tf (∃j,j<0∧StaleB r now (l.getD j dB))=false from tf_f (fun ⟨j,h,_⟩=>by omega)] at fin
 exact fin
end
def BadE (c:Cf) (r:Rg9) (x:Ct):Prop:=0<expy c r x∧expy c r x<c.1
theorem fm_cs {r:Rg9} (h:FMr r):(rCs r).length≤20∧r.2.2.2.2.2.2.2.2.length≤10∧NO r.2.2.2.2.2.1∧∀i,i<(rCs r).length→COK (rCs r) i:=⟨h.2.1.2.1,h.2.1.2.2,h.2.1.1,h.2.2.2.2.2.2.1⟩
section
variable (c:Cf) (now num:Int) (r:Rg9) (hv:VC c) (hf:FMr r) (hn0:0≤now∧now≤1099511627776)
include hv hf hn0
theorem upB_j (K:List Bnd) (hK:K.length≤100000) :
 ((∃i,i<(rCs r).length∧BadE c r ((rCs r).getD i c0))∧loopO (upB c now num r) (0,K)=some (.inr ([],16)))∨((¬ ∃i,i<(rCs r).length∧BadE c r ((rCs r).getD i c0))∧loopO (upB c now num r) (0,K)=some (.inl (K++newB c now num r (rCs r)))):=by
 have hc:=fm_cs hf
 refine loopO_search (body:=upB c now num r) (fun i=>((i:Int),K++newB c now num r ((rCs r).take i))) (rCs r).length (fun i=>BadE c r ((rCs r).getD i c0)) (by simp [newB]) (fun i hi hb => ?_) (fun i hi hb => ?_) ?_
 ·obtain ⟨x,hx,hxb⟩:=get_at c0 hi
  rw [hx] at hb
  have hw:NO x.2.2:=by have:=(hc.2.2.2 i hi).1;rw [hx] at this;exact this.2.2
  have hb2:=exp_b hv hc.2.2.1 hw
  have hej:=exp_j c r x
  have hn:((i:Int)+1)=((i+1:Nat):Int):=rfl
  have e1:newB c now num r ((rCs r).take (i+1))=if decide (expy c r x≠0)=true then newB c now num r ((rCs r).take i)++[mkB c now num r x] else newB c now num r ((rCs r).take i):=by
   unfold newB;rw [filter_snoc (rCs r) c0 _ hi,hx]
   split<;>simp
  have lN:(newB c now num r ((rCs r).take i)).length≤i:=by
   unfold newB;rw [List.length_map]
   exact Nat.le_trans (List.length_filter_le _ _) (by rw [List.length_take];omega)
  rw [e1]
  generalize newB c now num r ((rCs r).take i)=N at lN ⊢
  unfold BadE at hb
  have hm:mkB c now num r x=(r.1,(x.1,(x.2.1,(now+1000*expy c r x,(num,(r.2.1,(r.2.2.1,(r.2.2.2.2.2.2.1,(r.2.2.2.2.2.2.2.1,r.2.2.2.2.2.2.2.2))))))))):=rfl
  rw [hm]
  generalize expy c r x=e at hb hb2 hej ⊢
  unfold upB
  by_cases a1:e=0
  ·simp (disch:=(first | omega | (simp only [LNl];omega))) only [↓SDl,SDr,if_pos,if_neg,↓hxb,hej,a1,ne_eq,not_true_eq_false,decide_false,wrap_i64',hn,Bool.false_eq_true]
  ·simp (disch:=(first | omega | (simp only [LNl];omega))) only [↓SDl,SDr,if_pos,if_neg,↓hxb,hej,a1,ne_eq,not_false_eq_true,decide_true,wrap_i64',hn,List.append_assoc]
 ·obtain ⟨x,hx,hxb⟩:=get_at c0 hi
  rw [hx] at hb
  have hej:=exp_j c r x
  unfold BadE at hb
  generalize expy c r x=e at hb hej
  unfold upB
  simp (disch:=(first | omega | (simp only [LNl];omega))) only [↓SDl,SDr,if_pos,if_neg,↓hxb,hej]
 ·have lN:(newB c now num r (rCs r)).length≤20:=by
   unfold newB;rw [List.length_map]
   exact Nat.le_trans (List.length_filter_le _ _) hc.1
  simp only [List.take_length]
  unfold upB
  simp (disch:=(first | omega | (simp only [LNl];omega))) only [↓SDl,SDr,if_neg]
end
theorem upC_j {δ:Type} (v:List Bnd) (r:Rg9) (hv:v.length≤1000000):loopO (upC (δ:=δ) v r) (0,0)=some (.inl ((v.filter fun b=>decide (b.1=r.1)).length:Int)):=by
 have fin:loopO (upC (δ:=δ) v r) (0,(((v.take 0).filter fun b=>decide (b.1=r.1)).length:Int))=some (.inl ((v.filter fun b=>decide (b.1=r.1)).length:Int)):=by
  refine loopO_from (fun i=>((i:Int),(((v.take i).filter fun b=>decide (b.1=r.1)).length:Int))) v.length rfl (fun i hi => ?_) ?_
  ·obtain ⟨x,hx,hxb⟩:=get_at dB hi
   have hn:((i:Int)+1)=((i+1:Nat):Int):=rfl
   have e1:=filter_snoc v dB (fun b=>decide (b.1=r.1)) hi
   have lN:((v.take i).filter fun b=>decide (b.1=r.1)).length≤i:=Nat.le_trans (List.length_filter_le _ _) (by rw [List.length_take];omega)
   rw [e1,hx]
   generalize (v.take i).filter (fun b=>decide (b.1=r.1))=N at lN ⊢
   unfold upC
   by_cases a1:x.1=r.1
   ·have hm:((N.length:Nat):Int)+1=((N.length+1:Nat):Int):=rfl
    simp (disch:=(first | omega | (simp only [LNl];omega))) only [↓SDl,SDr,if_pos,if_neg,↓hxb,a1,decide_true,wrap_i64',hn,List.length_append,List.length_cons,List.length_nil,hm]
   ·simp (disch:=(first | omega | (simp only [LNl];omega))) only [↓SDl,SDr,if_pos,if_neg,↓hxb,a1,decide_false,wrap_i64',hn,Bool.false_eq_true]
  ·simp only [List.take_length]
   unfold upC
   simp (disch:=(first | omega | (simp only [LNl];omega))) only [↓SDl,SDr,if_neg]
 exact fin
theorem co_j (l:List Bnd) (hl:l.length≤1000000) (hp:∀b∈l,b.2.2.2.2.2.2.2.2.2.length≤1000000):registrar_copyOf l=some l:=by
 have c1:cloneG l=some l:=by unfold cloneG;rw [decide_eq_true hl];rfl
 have hL:∀ {δ:Type},loopO (coB (δ:=δ) l) ((0:Int),l)=some (.inl l):=fun {δ}=>by
  refine loopO_from (fun i=>((i:Int),l)) l.length rfl (fun i hi => ?_) ?_
  ·obtain ⟨x,hx,hxb⟩:=get_at dB hi
   have hok:=hp x (by rw [←hx,getD_get _ hi];exact List.getElem_mem _)
   have hcl:cloneG x.2.2.2.2.2.2.2.2.2=some x.2.2.2.2.2.2.2.2.2:=by unfold cloneG;rw [decide_eq_true hok];rfl
   have hs:List.set l i x=l:=by
    rw [←hx,getD_get _ hi];exact List.set_getElem_self hi
   have hn:((i:Int)+1)=((i+1:Nat):Int):=rfl
   unfold coB
   simp (disch:=(first | omega | (simp only [LNl];omega))) only [↓SDl,SDr,if_pos,if_neg,↓hxb,hcl,wrap_i64',hn,Int.toNat_natCast]
   rw [show (x.1,(x.2.1,(x.2.2.1,(x.2.2.2.1,(x.2.2.2.2.1,(x.2.2.2.2.2.1,(x.2.2.2.2.2.2.1,(x.2.2.2.2.2.2.2.1,(x.2.2.2.2.2.2.2.2.1,x.2.2.2.2.2.2.2.2.2)))))))))=x from rfl,hs]
  ·unfold coB
   simp (disch:=(first | omega | (simp only [LNl];omega))) only [↓SDl,SDr,if_neg]
 rw [co_eq]
 simp (disch:=(first | omega | (simp only [LNl];omega))) only [↓SDl,SDr,if_pos,if_neg,c1]
 refine joinO_eq (a:=l) hL ?_
 simp (disch:=(first | omega | (simp only [LNl];omega))) only [↓SDl,SDr,if_pos,if_neg]
end Go.Proofs.Ytlaccfegaoaakaa

set_option maxRecDepth 100000
set_option maxHeartbeats 2000000
namespace Go.Proofs.Ytlaccfegaoaakaa
open Go.RowKit
theorem out_len (c:Cf) (l:List Bnd) (now num:Int) (r:Rg9):(OutB c l now num r).length≤l.length+(rCs r).length:=by
 unfold OutB keptB newB
 rw [List.length_append,List.length_map]
 have h1:=List.length_filter_le (fun b=>tf (KeepB r now b)) l
 have h2:=List.length_filter_le (fun x=>decide (expy c r x≠0)) (rCs r)
 omega
theorem out_path {c:Cf} {l:List Bnd} {now num:Int} {r:Rg9} {N:Nat} (hp:∀b∈l,b.2.2.2.2.2.2.2.2.2.length≤N) (hr:r.2.2.2.2.2.2.2.2.length≤N):∀b∈OutB c l now num r,b.2.2.2.2.2.2.2.2.2.length≤N:=fun b hb=>by
 unfold OutB keptB newB at hb
 rcases List.mem_append.1 hb with h | h
 ·exact hp b (List.mem_filter.1 h).1
 ·obtain ⟨x,_,rfl⟩:=List.mem_map.1 h
  exact hr
theorem updP_j (c:Cf) (l:List Bnd) (now num:Int) (r:Rg9) (hl:l.length≤10000) (hp:∀b∈l,b.2.2.2.2.2.2.2.2.2.length≤1000):registrar_Update (c,(l,(now,(num,r))))=some (UPD c l now num r):=by
 rw [up_eq,vc_j c,bindO_some]
 unfold UPD
 by_cases hv:VC c
 ·rw [tf_t hv,Bool.not_true,cond_false,fm_j r,bindO_some]
  by_cases hf:FMr r
  ·rw [tf_t hf,Bool.not_true,cond_false]
   by_cases h1:0≤now
   ·by_cases h2:now≤1099511627776
    ·by_cases h3:0≤num
     ·have hc:=fm_cs hf
      rw [tf_t (show VC c∧FMr r∧0≤now∧now≤1099511627776∧0≤num from ⟨hv,hf,h1,h2,h3⟩)]
      have hA:loopO (upA l now r) (0,(false,[]))=some (.inl (tf (∃j,j<l.length∧StaleB r now (l.getD j dB)),keptB r now l):(Bool×List Bnd) ⊕ (List Bnd×Int)):=upA_j l now r (by omega) (by omega)
      have lK:(keptB r now l).length≤l.length:=List.length_filter_le _ _
      simp (disch:=(first | omega | (simp only [LNl];omega))) only [↓SDl,SDr,if_pos,if_neg,hA]
      by_cases hs:∃j,j<l.length∧StaleB r now (l.getD j dB)
      ·rw [tf_t hs,cond_true,cond_true]
      ·rw [tf_f hs,cond_false,cond_false]
       rcases upB_j c now num r hv hf ⟨h1,h2⟩ (keptB r now l) (by omega) with ⟨g1,g2⟩ | ⟨g1,g2⟩
       ·rw [tf_t (show ∃i,i<(rCs r).length∧0<expy c r ((rCs r).getD i c0)∧expy c r ((rCs r).getD i c0)<c.1 from g1),cond_true]
        simp (disch:=(first | omega | (simp only [LNl];omega))) only [↓SDl,SDr,if_pos,if_neg,g2]
       ·rw [tf_f (show ¬ ∃i,i<(rCs r).length∧0<expy c r ((rCs r).getD i c0)∧expy c r ((rCs r).getD i c0)<c.1 from g1),cond_false]
        have hO:keptB r now l++newB c now num r (rCs r)=OutB c l now num r:=rfl
        rw [hO] at g2
        have lO:=out_len c l now num r
        have pO:=out_path (c:=c) (now:=now) (num:=num) hp (show r.2.2.2.2.2.2.2.2.length≤1000 by omega)
        generalize OutB c l now num r=O at g2 lO pO ⊢
        have hC:loopO (upC O r) (0,0)=some (.inl ((O.filter fun b=>decide (b.1=r.1)).length:Int):Int ⊕ (List Bnd×Int)):=upC_j O r (by omega)
        have hco:=co_j O (by omega) (fun b hb=>by have:=pO b hb;omega)
        generalize ((O.filter fun b=>decide (b.1=r.1)).length:Int)=m at hC ⊢
        simp (disch:=(first | omega | (simp only [LNl];omega))) only [↓SDl,SDr,if_pos,if_neg,g2,hC]
        by_cases hm:c.2.2.2<m
        ·rw [tf_t hm,cond_true,if_pos hm]
        ·rw [tf_f hm,cond_false,if_neg hm]
         simp (disch:=(first | omega | (simp only [LNl];omega))) only [↓SDl,SDr,if_pos,if_neg,hco]
     ·rw [tf_f (show ¬(VC c∧FMr r∧0≤now∧now≤1099511627776∧0≤num) from fun h=>h3 h.2.2.2.2)]
      simp (disch:=(first | omega | (simp only [LNl];omega))) only [↓SDl,SDr,if_pos,if_neg]
    ·rw [tf_f (show ¬(VC c∧FMr r∧0≤now∧now≤1099511627776∧0≤num) from fun h=>h2 h.2.2.2.1)]
     simp (disch:=(first | omega | (simp only [LNl];omega))) only [↓SDl,SDr,if_pos,if_neg]
   ·rw [tf_f (show ¬(VC c∧FMr r∧0≤now∧now≤1099511627776∧0≤num) from fun h=>h1 h.2.2.1)]
    simp (disch:=(first | omega | (simp only [LNl];omega))) only [↓SDl,SDr,if_pos,if_neg]
  ·rw [tf_f (show ¬(VC c∧FMr r∧0≤now∧now≤1099511627776∧0≤num) from fun h=>hf h.2.1),tf_f hf]
   simp (disch:=(first | omega | (simp only [LNl];omega))) only [↓SDl,SDr,if_pos,if_neg]
 ·rw [tf_f (show ¬(VC c∧FMr r∧0≤now∧now≤1099511627776∧0≤num) from fun h=>hv h.1),tf_f hv]
  simp (disch:=(first | omega | (simp only [LNl];omega))) only [↓SDl,SDr,if_pos,if_neg]
section
variable (l:List Bnd) (now:Int) (r:Rg9) (hl:l.length≤100000) (hr:(rCs r).length≤1000)
include hl hr
theorem urA_j:((∃i,i<l.length∧StaleB r now (l.getD i dB))∧loopO (urA l now r) (0:Int)=some (.inr ([],13)))∨((¬ ∃i,i<l.length∧StaleB r now (l.getD i dB))∧loopO (urA l now r) (0:Int)=some (.inl ())):=by
 refine loopO_search (body:=urA l now r) (fun i=>((i:Int))) l.length (fun i=>StaleB r now (l.getD i dB)) rfl (fun i hi hb => ?_) (fun i hi hb => ?_) ?_
 ·obtain ⟨x,hx,hxb⟩:=get_at dB hi
  rw [hx] at hb
  have hn:((i:Int)+1)=((i+1:Nat):Int):=rfl
  have ht:=touchR_j r x now hr
  unfold urA
  by_cases a1:(x.1=r.1∧now<x.2.2.2.1)∧Tch r x
  ·rw [tf_t a1] at ht
   by_cases a2:x.2.2.2.2.2.1=r.2.1
   ·have a3:¬x.2.2.2.2.2.2.1≥r.2.2.1:=fun h=>hb ⟨a1.1,a1.2,a2,h⟩
    simp (disch:=(first | omega | (simp only [LNl];omega))) only [↓SDl,SDr,if_pos,if_neg,↓hxb,a2,ht,wrap_i64',hn]
   ·simp (disch:=(first | omega | (simp only [LNl];omega))) only [↓SDl,SDr,if_pos,if_neg,↓hxb,a2,ht,wrap_i64',hn]
  ·rw [tf_f a1] at ht
   simp (disch:=(first | omega | (simp only [LNl];omega))) only [↓SDl,SDr,if_pos,if_neg,↓hxb,ht,wrap_i64',hn]
 ·obtain ⟨x,hx,hxb⟩:=get_at dB hi
  rw [hx] at hb
  have ht:=touchR_j r x now hr
  rw [tf_t ⟨hb.1,hb.2.1⟩] at ht
  have a2:=hb.2.2.1
  have a3:=hb.2.2.2
  unfold urA
  simp (disch:=(first | omega | (simp only [LNl];omega))) only [↓SDl,SDr,if_pos,if_neg,↓hxb,a2,ht]
 ·unfold urA
  simp (disch:=(first | omega | (simp only [LNl];omega))) only [↓SDl,SDr,if_neg]
theorem urC_j {δ:Type}:loopO (urC (δ:=δ) l now r) (0,[])=some (.inl (keptB r now l)):=by
 have fin:loopO (urC (δ:=δ) l now r) (0,keptB r now (l.take 0))=some (.inl (keptB r now l)):=by
  refine loopO_from (fun i=>((i:Int),keptB r now (l.take i))) l.length rfl (fun i hi => ?_) ?_
  ·obtain ⟨x,hx,hxb⟩:=get_at dB hi
   have hn:((i:Int)+1)=((i+1:Nat):Int):=rfl
   have e1:keptB r now (l.take (i+1))=if tf (KeepB r now x)=true then keptB r now (l.take i)++[x] else keptB r now (l.take i):=by
    unfold keptB;rw [filter_snoc l dB _ hi,hx]
   have lK:(keptB r now (l.take i)).length≤i:=by
    unfold keptB
    exact Nat.le_trans (List.length_filter_le _ _) (by rw [List.length_take];omega)
   rw [e1]
   generalize keptB r now (l.take i)=K at lK ⊢
   have ht:=touchR_j r x now hr
   unfold urC
   by_cases a1:x.1=r.1
   ·by_cases a2:now<x.2.2.2.1
    ·by_cases a3:Tch r x
     ·have k1:¬KeepB r now x:=fun h=>h.elim (fun h=>h a1) (fun h=>h.2 a3)
      rw [tf_f k1]
      rw [tf_t ⟨⟨a1,a2⟩,a3⟩] at ht
      simp (disch:=(first | omega | (simp only [LNl];omega))) only [↓SDl,SDr,if_pos,if_neg,↓hxb,a1,ht,ne_eq,not_true_eq_false,decide_false,wrap_i64',hn,Bool.false_eq_true]
     ·rw [tf_t (show KeepB r now x from .inr ⟨a2,a3⟩)]
      rw [tf_f (fun h=>a3 h.2)] at ht
      simp (disch:=(first | omega | (simp only [LNl];omega))) only [↓SDl,SDr,if_pos,if_neg,↓hxb,a1,ht,ne_eq,not_true_eq_false,decide_false,wrap_i64',hn,Bool.false_eq_true]
    ·have k1:¬KeepB r now x:=fun h=>h.elim (fun h=>h a1) (fun h=>a2 h.1)
     rw [tf_f k1]
     simp (disch:=(first | omega | (simp only [LNl];omega))) only [↓SDl,SDr,if_pos,if_neg,↓hxb,a1,ne_eq,not_true_eq_false,decide_false,wrap_i64',hn,Bool.false_eq_true]
   ·rw [tf_t (show KeepB r now x from .inl a1)]
    simp (disch:=(first | omega | (simp only [LNl];omega))) only [↓SDl,SDr,if_pos,if_neg,↓hxb,a1,ne_eq,not_false_eq_true,decide_true,wrap_i64',hn]
  ·have lK:(keptB r now l).length≤l.length:=List.length_filter_le _ _
   simp only [List.take_length]
   unfold urC
   simp (disch:=(first | omega | (simp only [LNl];omega))) only [↓SDl,SDr,if_neg]
 exact fin
end
section
variable (c:Cf) (now num:Int) (r:Rg9) (hf:FMr r) (hv:VC c) (hn0:0≤now∧now≤1099511627776)
include hf
theorem urB_j:((∃i,i<(rCs r).length∧BadE c r ((rCs r).getD i c0))∧loopO (urB c r) (0:Int)=some (.inr ([],16)))∨((¬ ∃i,i<(rCs r).length∧BadE c r ((rCs r).getD i c0))∧loopO (urB c r) (0:Int)=some (.inl ())):=by
 have hc:=fm_cs hf
 refine loopO_search (body:=urB c r) (fun i=>((i:Int))) (rCs r).length (fun i=>BadE c r ((rCs r).getD i c0)) rfl (fun i hi hb => ?_) (fun i hi hb => ?_) ?_
 ·obtain ⟨x,hx,hxb⟩:=get_at c0 hi
  rw [hx] at hb
  have hej:=expR_j c r x
  have hn:((i:Int)+1)=((i+1:Nat):Int):=rfl
  unfold BadE at hb
  generalize expy c r x=e at hb hej
  unfold urB
  by_cases a1:e > 0
  ·simp (disch:=(first | omega | (simp only [LNl];omega))) only [↓SDl,SDr,if_pos,if_neg,↓hxb,hej,wrap_i64',hn]
  ·simp (disch:=(first | omega | (simp only [LNl];omega))) only [↓SDl,SDr,if_pos,if_neg,↓hxb,hej,wrap_i64',hn]
 ·obtain ⟨x,hx,hxb⟩:=get_at c0 hi
  rw [hx] at hb
  have hej:=expR_j c r x
  unfold BadE at hb
  generalize expy c r x=e at hb hej
  unfold urB
  simp (disch:=(first | omega | (simp only [LNl];omega))) only [↓SDl,SDr,if_pos,if_neg,↓hxb,hej]
 ·unfold urB
  simp (disch:=(first | omega | (simp only [LNl];omega))) only [↓SDl,SDr,if_neg]
include hv hn0
theorem urD_j {δ:Type} (K:List Bnd) (hK:K.length≤100000):loopO (urD (δ:=δ) c now num r) (0,K)=some (.inl (K++newB c now num r (rCs r))):=by
 have hc:=fm_cs hf
 refine loopO_from (fun i=>((i:Int),K++newB c now num r ((rCs r).take i))) (rCs r).length (by simp [newB]) (fun i hi => ?_) ?_
 ·obtain ⟨x,hx,hxb⟩:=get_at c0 hi
  have hw:NO x.2.2:=by have:=(hc.2.2.2 i hi).1;rw [hx] at this;exact this.2.2
  have hb2:=exp_b hv hc.2.2.1 hw
  have hej:=expR_j c r x
  have hn:((i:Int)+1)=((i+1:Nat):Int):=rfl
  have e1:newB c now num r ((rCs r).take (i+1))=if decide (expy c r x≠0)=true then newB c now num r ((rCs r).take i)++[mkB c now num r x] else newB c now num r ((rCs r).take i):=by
   unfold newB;rw [filter_snoc (rCs r) c0 _ hi,hx]
   split<;>simp
  have lN:(newB c now num r ((rCs r).take i)).length≤i:=by
   unfold newB;rw [List.length_map]
   exact Nat.le_trans (List.length_filter_le _ _) (by rw [List.length_take];omega)
  rw [e1]
  generalize newB c now num r ((rCs r).take i)=N at lN ⊢
  have hm:mkB c now num r x=(r.1,(x.1,(x.2.1,(now+1000*expy c r x,(num,(r.2.1,(r.2.2.1,(r.2.2.2.2.2.2.1,(r.2.2.2.2.2.2.2.1,r.2.2.2.2.2.2.2.2))))))))):=rfl
  rw [hm]
  generalize expy c r x=e at hb2 hej ⊢
  unfold urD
  by_cases a1:e=0
  ·simp (disch:=(first | omega | (simp only [LNl];omega))) only [↓SDl,SDr,if_pos,if_neg,↓hxb,hej,a1,ne_eq,not_true_eq_false,decide_false,wrap_i64',hn,Bool.false_eq_true]
  ·simp (disch:=(first | omega | (simp only [LNl];omega))) only [↓SDl,SDr,if_pos,if_neg,↓hxb,hej,a1,ne_eq,not_false_eq_true,decide_true,wrap_i64',hn,List.append_assoc]
 ·have lN:(newB c now num r (rCs r)).length≤20:=by
   unfold newB;rw [List.length_map]
   exact Nat.le_trans (List.length_filter_le _ _) hc.1
  simp only [List.take_length]
  unfold urD
  simp (disch:=(first | omega | (simp only [LNl];omega))) only [↓SDl,SDr,if_neg]
end
theorem live_j (v:List Bnd) (now:Int) (aor:Tx) (hv:v.length≤1000000):dialtoneref22_Live (v,(now,aor))=some ((v.filter fun b=>decide (b.1=aor∧now<b.2.2.2.1)).length:Int):=by
 rw [lv_eq]
 refine joinO_eq (a:=((v.filter fun b=>decide (b.1=aor∧now<b.2.2.2.1)).length:Int)) ?_ rfl
 have fin:∀ {δ:Type},loopO (lvB (δ:=δ) v now aor) (0,(((v.take 0).filter fun b=>decide (b.1=aor∧now<b.2.2.2.1)).length:Int))=some (.inl ((v.filter fun b=>decide (b.1=aor∧now<b.2.2.2.1)).length:Int)):=fun {δ}=>by
  refine loopO_from (fun i=>((i:Int),(((v.take i).filter fun b=>decide (b.1=aor∧now<b.2.2.2.1)).length:Int))) v.length rfl (fun i hi => ?_) ?_
  ·obtain ⟨x,hx,hxb⟩:=get_at dB hi
   have hn:((i:Int)+1)=((i+1:Nat):Int):=rfl
   have e1:=filter_snoc v dB (fun b=>decide (b.1=aor∧now<b.2.2.2.1)) hi
   have lN:((v.take i).filter fun b=>decide (b.1=aor∧now<b.2.2.2.1)).length≤i:=Nat.le_trans (List.length_filter_le _ _) (by rw [List.length_take];omega)
   rw [e1,hx]
   generalize (v.take i).filter (fun b=>decide (b.1=aor∧now<b.2.2.2.1))=N at lN ⊢
   unfold lvB
   by_cases a1:x.1=aor
   ·by_cases a2:now<x.2.2.2.1
    ·have hm:((N.length:Nat):Int)+1=((N.length+1:Nat):Int):=rfl
     rw [decide_eq_true (show x.1=aor∧now<x.2.2.2.1 from ⟨a1,a2⟩)]
     simp (disch:=(first | omega | (simp only [LNl];omega))) only [↓SDl,SDr,if_pos,if_neg,↓hxb,a1,wrap_i64',hn,List.length_append,List.length_cons,List.length_nil,hm]
    ·rw [decide_eq_false (fun h=>a2 h.2)]
     simp (disch:=(first | omega | (simp only [LNl];omega))) only [↓SDl,SDr,if_pos,if_neg,↓hxb,a1,wrap_i64',hn,Bool.false_eq_true]
   ·rw [decide_eq_false (fun h=>a1 h.1)]
    simp (disch:=(first | omega | (simp only [LNl];omega))) only [↓SDl,SDr,if_pos,if_neg,↓hxb,a1,wrap_i64',hn,Bool.false_eq_true]
  ·simp only [List.take_length]
   unfold lvB
   simp (disch:=(first | omega | (simp only [LNl];omega))) only [↓SDl,SDr,if_neg]
 exact fin
theorem live_out {c:Cf} {l:List Bnd} {now num:Int} {r:Rg9} (hv:VC c) (hf:FMr r) (hb:¬ ∃i,i<(rCs r).length∧BadE c r ((rCs r).getD i c0)):(OutB c l now num r).filter (fun b=>decide (b.1=r.1∧now<b.2.2.2.1))=(OutB c l now num r).filter (fun b=>decide (b.1=r.1)):=by
 refine List.filter_congr fun b hm => ?_
 by_cases h1:b.1=r.1
 ·have h2:now<b.2.2.2.1:=by
   unfold OutB keptB newB at hm
   rcases List.mem_append.1 hm with h | h
   ·have:=tf_iff.1 (List.mem_filter.1 h).2
    exact (this.resolve_left (fun k=>k h1)).1
   ·obtain ⟨x,hx,rfl⟩:=List.mem_map.1 h
    obtain ⟨hx1,hx2⟩:=List.mem_filter.1 hx
    obtain ⟨k,hk,rfl⟩:=List.getElem_of_mem hx1
    have hc:=fm_cs hf
    have hw:NO (rCs r)[k].2.2:=by have:=(hc.2.2.2 k hk).1;rw [getD_get _ hk] at this;exact this.2.2
    have:=exp_b hv hc.2.2.1 hw
    have hne:expy c r (rCs r)[k]≠0:=of_decide_eq_true hx2
    show now<now+1000*expy c r (rCs r)[k]
    omega
  rw [decide_eq_true ⟨h1,h2⟩,decide_eq_true h1]
 ·rw [decide_eq_false (fun h=>h1 h.1),decide_eq_false h1]
theorem updR_j (c:Cf) (l:List Bnd) (now num:Int) (r:Rg9) (hl:l.length≤10000):dialtoneref22_Update (c,(l,(now,(num,r))))=some (UPD c l now num r):=by
 rw [ur_eq,vcR_j c,bindO_some]
 unfold UPD
 by_cases hv:VC c
 ·rw [tf_t hv,Bool.not_true,cond_false,fmR_j r,bindO_some]
  by_cases hf:FMr r
  ·rw [tf_t hf,Bool.not_true,cond_false,rng_j,bindO_some]
   by_cases h12:0≤now∧now≤1099511627776
   ·rw [tf_t h12]
    by_cases h3:0≤num
    ·have hc:=fm_cs hf
     rw [tf_t (show VC c∧FMr r∧0≤now∧now≤1099511627776∧0≤num from ⟨hv,hf,h12.1,h12.2,h3⟩)]
     simp (disch:=(first | omega | (simp only [LNl];omega))) only [↓SDl,SDr,if_pos,if_neg]
     rcases urA_j l now r (by omega) (by omega) with ⟨g1,g2⟩ | ⟨g1,g2⟩
     ·rw [tf_t g1,cond_true,g2,joinO_inr]
     ·rw [tf_f g1,cond_false,g2,joinO_inl]
      rcases urB_j c r hf with ⟨k1,k2⟩ | ⟨k1,k2⟩
      ·rw [tf_t (show ∃i,i<(rCs r).length∧0<expy c r ((rCs r).getD i c0)∧expy c r ((rCs r).getD i c0)<c.1 from k1),cond_true,k2,joinO_inr]
      ·rw [tf_f (show ¬ ∃i,i<(rCs r).length∧0<expy c r ((rCs r).getD i c0)∧expy c r ((rCs r).getD i c0)<c.1 from k1),cond_false,k2,joinO_inl]
       have hC:loopO (urC l now r) (0,[])=some (.inl (keptB r now l):List Bnd ⊕ (List Bnd×Int)):=urC_j l now r (by omega) (by omega)
       have lK:(keptB r now l).length≤l.length:=List.length_filter_le _ _
       have hD:loopO (urD c now num r) (0,keptB r now l)=some (.inl (OutB c l now num r):List Bnd ⊕ (List Bnd×Int)):=urD_j c now num r hf hv h12 _ (by omega)
       have lO:=out_len c l now num r
       have hL:=live_j (OutB c l now num r) now r.1 (by omega)
       rw [live_out hv hf k1] at hL
       generalize OutB c l now num r=O at hD lO hL ⊢
       generalize ((O.filter fun b=>decide (b.1=r.1)).length:Int)=m at hL ⊢
       simp (disch:=(first | omega | (simp only [LNl];omega))) only [↓SDl,SDr,if_pos,if_neg,hC,hD,hL]
       by_cases hm:c.2.2.2<m
       ·rw [tf_t hm,cond_true,if_pos hm]
       ·rw [tf_f hm,cond_false,if_neg hm]
    ·rw [tf_f (show ¬(VC c∧FMr r∧0≤now∧now≤1099511627776∧0≤num) from fun h=>h3 h.2.2.2.2)]
     simp (disch:=(first | omega | (simp only [LNl];omega))) only [↓SDl,SDr,if_pos,if_neg]
   ·rw [tf_f h12,tf_f (show ¬(VC c∧FMr r∧0≤now∧now≤1099511627776∧0≤num) from fun h=>h12 ⟨h.2.2.1,h.2.2.2.1⟩)]
    simp (disch:=(first | omega | (simp only [LNl];omega))) only [↓SDl,SDr,if_pos,if_neg]
  ·rw [tf_f (show ¬(VC c∧FMr r∧0≤now∧now≤1099511627776∧0≤num) from fun h=>hf h.2.1),tf_f hf]
   simp (disch:=(first | omega | (simp only [LNl];omega))) only [↓SDl,SDr,if_pos,if_neg]
 ·rw [tf_f (show ¬(VC c∧FMr r∧0≤now∧now≤1099511627776∧0≤num) from fun h=>hv h.1),tf_f hv]
  simp (disch:=(first | omega | (simp only [LNl];omega))) only [↓SDl,SDr,if_pos,if_neg]
end Go.Proofs.Ytlaccfegaoaakaa

set_option maxRecDepth 100000
set_option maxHeartbeats 2000000
namespace Go.Proofs.Ytlaccfegaoaakaa
open Go.RowKit
theorem bl_irr:∀a:Tx,Op.bytesLess a a=false
 | []=>rfl
 | x::a=>by rw [Op.bytesLess,bl_irr a];simp
theorem bl_cons {x y:UInt8} {a b:Tx}:Op.bytesLess (x::a) (y::b)=true↔x.toNat<y.toNat∨(x=y∧Op.bytesLess a b=true):=by
 rw [Op.bytesLess]
 simp [UInt8.lt_iff_toNat_lt]
theorem bl_tr:∀ {a b c:Tx},Op.bytesLess a b=true→Op.bytesLess b c=true→Op.bytesLess a c=true
 | _,_,[],_,h=>by cases ‹Tx› <;> simp [Op.bytesLess] at h
 | _,[],_::_,h,_=>by cases ‹Tx› <;> simp [Op.bytesLess] at h
 | [],_::_,_::_,_,_=>rfl
 | x::a,y::b,z::c,h,k=>by
   rw [bl_cons] at h k ⊢
   rcases h with h | ⟨rfl,h⟩<;>rcases k with k | ⟨rfl,k⟩
   ·exact .inl (by omega)
   ·exact .inl h
   ·exact .inl k
   ·exact .inr ⟨rfl,bl_tr h k⟩
theorem bl_tri:∀(a b:Tx),Op.bytesLess a b=true∨Op.bytesLess b a=true∨a=b
 | [],[] => .inr (.inr rfl)
 | [],_::_ => .inl rfl
 | _::_,[] => .inr (.inl rfl)
 | x::a,y::b=>by
   rw [bl_cons,bl_cons]
   rcases Nat.lt_trichotomy x.toNat y.toNat with h | h | h
   ·exact .inl (.inl h)
   ·have e:x=y:=UInt8.toNat_inj.1 h
    subst e
    rcases bl_tri a b with g | g | g
    ·exact .inl (.inr ⟨rfl,g⟩)
    ·exact .inr (.inl (.inr ⟨rfl,g⟩))
    ·exact .inr (.inr (by rw [g]))
   ·exact .inr (.inl (.inl h))
def cmpI (a b:Int):Int:=if a<b then -1 else if b<a then 1 else 0
theorem cmp_j (a b:Int):cmp_Compare_int (a,b)=some (cmpI a b):=by
 unfold cmp_Compare_int cmpI
 by_cases h1:a<b
 ·simp [h1]
 ·by_cases h2:a > b
  ·have h3:b<a:=h2
   simp [h1,h2,h3]
  ·have h3:¬b<a:=h2
   simp [h1,h2,h3]
def cmpS (a b:Tx):Int:=bif Op.bytesLess a b then -1 else if a=b then 0 else 1
theorem cmpS_j (a b:Tx):cmp_Compare_string (a,b)=some (cmpS a b):=by
 unfold cmp_Compare_string cmpS
 simp only [ne_eq,not_true_eq_false,decide_false,cond_false]
 cases h:Op.bytesLess a b with
 | true=>rfl
 | false =>
   by_cases e:a=b
   ·subst e;simp
   ·simp [e]
theorem or_j {δ:Type} (a b c:Int):(joinO (loopO (k3B (δ:=δ) a b c) (0:Int)) fun _=>(some (Sum.inl (0:Int)):Option (Int ⊕ δ)))=some (.inl (if a≠0 then a else if b≠0 then b else c)):=by
 by_cases h1:a=0
 ·have s0:k3B (δ:=δ) a b c (((0:Nat):Int))=some (.inl (((0+1:Nat):Int))):=by subst h1;rfl
  by_cases h2:b=0
  ·have s1:k3B (δ:=δ) a b c (((1:Nat):Int))=some (.inl (((1+1:Nat):Int))):=by subst h2;rfl
   by_cases h3:c=0
   ·have s2:k3B (δ:=δ) a b c (((2:Nat):Int))=some (.inl (((2+1:Nat):Int))):=by subst h3;rfl
    have hl:loopO (k3B (δ:=δ) a b c) (0:Int)=some (.inl ()):=loopO_from (fun i=>((i:Nat):Int)) 3 rfl (fun i hi=>by
     have:i=0∨i=1∨i=2:=by omega
     rcases this with rfl | rfl | rfl
     ·exact s0
     ·exact s1
     ·exact s2) rfl
    rw [hl,joinO_inl,h1,h2,h3];rfl
   ·have hl:loopO (k3B (δ:=δ) a b c) (0:Int)=some (.inr (.inl c)):=loopO_from (fun i=>((i:Nat):Int)) 2 rfl (fun i hi=>by
     have:i=0∨i=1:=by omega
     rcases this with rfl | rfl
     ·exact s0
     ·exact s1) (by
      have e:k3B (δ:=δ) a b c (((2:Nat):Int))=bif decide (c≠0) then outO (outO (some (.inl c))) else some (.inl 3):=rfl
      rw [e,decide_eq_true h3];rfl)
    rw [hl,joinO_inr,h1,h2];simp
  ·have hl:loopO (k3B (δ:=δ) a b c) (0:Int)=some (.inr (.inl b)):=loopO_from (fun i=>((i:Nat):Int)) 1 rfl (fun i hi=>by
    have:i=0:=by omega
    subst this;exact s0) (by
     have e:k3B (δ:=δ) a b c (((1:Nat):Int))=bif decide (b≠0) then outO (outO (some (.inl b))) else some (.inl 2):=rfl
     rw [e,decide_eq_true h2];rfl)
   rw [hl,joinO_inr,h1];simp [h2]
 ·have hl:loopO (k3B (δ:=δ) a b c) (0:Int)=some (.inr (.inl a)):=loopO_from (fun i=>((i:Nat):Int)) 0 rfl (fun i hi=>absurd hi (by omega)) (by
   have e:k3B (δ:=δ) a b c (((0:Nat):Int))=bif decide (a≠0) then outO (outO (some (.inl a))) else some (.inl 1):=rfl
   rw [e,decide_eq_true h1];rfl)
  rw [hl,joinO_inr];simp [h1]
def bef (a b:Bnd):Prop:=b.2.2.1<a.2.2.1∨(a.2.2.1=b.2.2.1∧(b.2.2.2.2.1<a.2.2.2.2.1∨(a.2.2.2.2.1=b.2.2.2.2.1∧Op.bytesLess a.2.1 b.2.1=true)))
def kb (a b:Bnd):Int:=if cmpI b.2.2.1 a.2.2.1≠0 then cmpI b.2.2.1 a.2.2.1 else if cmpI b.2.2.2.2.1 a.2.2.2.2.1≠0 then cmpI b.2.2.2.2.1 a.2.2.2.2.1 else cmpS a.2.1 b.2.1
theorem kb_lt (a b:Bnd):kb a b<0↔bef a b:=by
 unfold kb bef cmpI cmpS
 cases Op.bytesLess a.2.1 b.2.1<;>(repeat' split)<;>simp at * <;> omega
theorem kb_j (a b:Bnd):registrar_Lookup_1 (a,b)=some (kb a b):=by
 rw [k3_eq,cmp_j,bindO_some,cmp_j,bindO_some,cmpS_j,bindO_some]
 rw [or_j,joinO_inl]
 rfl
theorem bef_asym {a b:Bnd} (h:bef a b):¬bef b a:=by
 unfold bef at *
 rcases h with h | ⟨h1,h | ⟨h2,h3⟩⟩<;>rintro (k | ⟨k1,k | ⟨k2,k3⟩⟩)<;>try omega
 have:=bl_tr h3 k3
 rw [bl_irr] at this
 cases this
theorem bef_trans {a b c:Bnd} (h:bef a b) (k:bef b c):bef a c:=by
 unfold bef at *
 rcases h with h | ⟨h1,h | ⟨h2,h3⟩⟩<;>rcases k with k | ⟨k1,k | ⟨k2,k3⟩⟩
 ·exact .inl (by omega)
 ·exact .inl (by omega)
 ·exact .inl (by omega)
 ·exact .inl (by omega)
 ·exact .inr ⟨by omega,.inl (by omega)⟩
 ·exact .inr ⟨by omega,.inl (by omega)⟩
 ·exact .inl (by omega)
 ·exact .inr ⟨by omega,.inl (by omega)⟩
 ·exact .inr ⟨by omega,.inr ⟨by omega,bl_tr h3 k3⟩⟩
def KeyE (a b:Bnd):Prop:=a.2.2.1=b.2.2.1∧a.2.2.2.2.1=b.2.2.2.2.1∧a.2.1=b.2.1
theorem bef_tri (a b:Bnd):bef a b∨bef b a∨KeyE a b:=by
 unfold bef KeyE
 rcases Int.lt_trichotomy a.2.2.1 b.2.2.1 with h | h | h
 ·exact .inr (.inl (.inl h))
 ·rcases Int.lt_trichotomy a.2.2.2.2.1 b.2.2.2.2.1 with k | k | k
  ·exact .inr (.inl (.inr ⟨h.symm,.inl k⟩))
  ·rcases bl_tri a.2.1 b.2.1 with g | g | g
   ·exact .inl (.inr ⟨h,.inr ⟨k,g⟩⟩)
   ·exact .inr (.inl (.inr ⟨h.symm,.inr ⟨k.symm,g⟩⟩))
   ·exact .inr (.inr ⟨h,k,g⟩)
  ·exact .inl (.inr ⟨h,.inl k⟩)
 ·exact .inl (.inl h)
theorem bef_tr {p q r:Bnd} (h:¬bef q p) (k:¬bef r q):¬bef r p:=fun g=>by
 rcases bef_tri p q with a | a | ⟨a1,a2,a3⟩
 ·exact k (bef_trans g a)
 ·exact h a
 ·refine k ?_
  unfold bef at g ⊢
  rw [←a1,←a2,←a3]
  exact g
theorem befR_j (a b:Bnd):dialtoneref22_Before (a,b)=some (tf (bef a b)):=by
 show (bif decide (a.2.2.1≠b.2.2.1) then some (decide (a.2.2.1 > b.2.2.1)) else bif decide (a.2.2.2.2.1≠b.2.2.2.2.1) then some (decide (a.2.2.2.2.1 > b.2.2.2.2.1)) else some (Op.bytesLess a.2.1 b.2.1))=_
 by_cases h1:a.2.2.1=b.2.2.1
 ·by_cases h2:a.2.2.2.2.1=b.2.2.2.2.1
  ·simp only [h1,h2,ne_eq,not_true_eq_false,decide_false,cond_false]
   cases g:Op.bytesLess a.2.1 b.2.1 with
   | true=>rw [tf_t];exact .inr ⟨h1,.inr ⟨h2,g⟩⟩
   | false =>
     rw [tf_f]
     rintro (k | ⟨_,k | ⟨_,k⟩⟩)
     ·omega
     ·omega
     ·rw [g] at k;cases k
  ·simp only [h1,h2,ne_eq,not_true_eq_false,not_false_eq_true,decide_true,decide_false,cond_true,cond_false]
   rw [dec_tf]
   congr 1
   refine tf_congr ⟨fun k => .inr ⟨h1,.inl k⟩,?_⟩
   rintro (k | ⟨_,k | ⟨k,_⟩⟩)
   ·omega
   ·exact k
   ·exact absurd k h2
 ·simp only [h1,ne_eq,not_false_eq_true,decide_true,cond_true]
  rw [dec_tf]
  congr 1
  refine tf_congr ⟨fun k => .inl k,?_⟩
  rintro (k | ⟨k,_⟩)
  ·exact k
  ·exact absurd k h1
def liveB (l:List Bnd) (now:Int) (aor:Tx):List Bnd:=l.filter fun b=>decide (b.1=aor∧now<b.2.2.2.1)
theorem luB_j {δ:Type} (l:List Bnd) (now:Int) (aor:Tx) (hl:l.length≤100000):loopO (luB (δ:=δ) l now aor) (0,[])=some (.inl (liveB l now aor)):=by
 have fin:loopO (luB (δ:=δ) l now aor) (0,liveB (l.take 0) now aor)=some (.inl (liveB l now aor)):=by
  refine loopO_from (fun i=>((i:Int),liveB (l.take i) now aor)) l.length rfl (fun i hi => ?_) ?_
  ·obtain ⟨x,hx,hxb⟩:=get_at dB hi
   have hn:((i:Int)+1)=((i+1:Nat):Int):=rfl
   have e1:liveB (l.take (i+1)) now aor=if decide (x.1=aor∧now<x.2.2.2.1)=true then liveB (l.take i) now aor++[x] else liveB (l.take i) now aor:=by
    unfold liveB;rw [filter_snoc l dB _ hi,hx]
   have lN:(liveB (l.take i) now aor).length≤i:=Nat.le_trans (List.length_filter_le _ _) (by rw [List.length_take];omega)
   rw [e1]
   generalize liveB (l.take i) now aor=N at lN ⊢
   unfold luB
   by_cases a1:x.1=aor
   ·by_cases a2:now<x.2.2.2.1
    ·rw [decide_eq_true (show x.1=aor∧now<x.2.2.2.1 from ⟨a1,a2⟩)]
     simp (disch:=(first | omega | (simp only [LNl];omega))) only [↓SDl,SDr,if_pos,if_neg,↓hxb,a1,wrap_i64',hn]
    ·rw [decide_eq_false (fun h=>a2 h.2)]
     simp (disch:=(first | omega | (simp only [LNl];omega))) only [↓SDl,SDr,if_pos,if_neg,↓hxb,a1,wrap_i64',hn,Bool.false_eq_true]
   ·rw [decide_eq_false (fun h=>a1 h.1)]
    simp (disch:=(first | omega | (simp only [LNl];omega))) only [↓SDl,SDr,if_pos,if_neg,↓hxb,a1,wrap_i64',hn,Bool.false_eq_true]
  ·have lN:(liveB l now aor).length≤l.length:=List.length_filter_le _ _
   simp only [List.take_length]
   unfold luB
   simp (disch:=(first | omega | (simp only [LNl];omega))) only [↓SDl,SDr,if_neg]
 exact fin
theorem live_len (l:List Bnd) (now:Int) (aor:Tx):(liveB l now aor).length≤(l.filter fun b=>decide (b.1=aor)).length:=by
 unfold liveB
 have:l.filter (fun b=>decide (b.1=aor∧now<b.2.2.2.1))=(l.filter fun b=>decide (b.1=aor)).filter fun b=>decide (now<b.2.2.2.1):=by
  rw [List.filter_filter]
  refine List.filter_congr fun b _ => ?_
  simp [Bool.and_comm]
 rw [this]
 exact List.length_filter_le _ _
theorem lookP_j (l:List Bnd) (now:Int) (aor:Tx) (hl:l.length≤10000) (hc:(l.filter fun b=>decide (b.1=aor)).length≤200) (hp:∀b∈l,b.2.2.2.2.2.2.2.2.2.length≤1000) :
 ∃Z,registrar_Lookup (l,(now,aor))=some Z∧Z.Perm (liveB l now aor)∧Srt bef Z:=by
 have lL:=live_len l now aor
 obtain ⟨Z,z1,z2,z3⟩:=sort_spec (V:=fun _=>True) (c:=kb) (fun x y _ _=>kb_j x y)
  ⟨fun x y _ _ h=>by rw [kb_lt] at h ⊢;exact bef_asym h,fun x y z _ _ _ h k=>by rw [kb_lt] at h k ⊢;exact bef_tr h k⟩ (liveB l now aor) (by omega) (fun _ _=>trivial)
 have lZ:Z.length=(liveB l now aor).length:=z2.length_eq
 refine ⟨Z,?_,z2,z3.imp fun {x y} h k=>h ((kb_lt _ _).2 k)⟩
 have hco:=co_j Z (by omega) (fun b hb=>by
  have:=hp b (List.mem_filter.1 (z2.mem_iff.1 hb)).1
  omega)
 have hA:=fun δ=>luB_j (δ:=δ) l now aor (by omega)
 generalize liveB l now aor=L at hA lL z1 lZ
 rw [lu_eq]
 refine joinO_eq (a:=L) (hA _) ?_
 simp (disch:=(first | omega | (simp only [LNl];omega))) only [↓SDl,SDr,if_pos,if_neg,z1]
 rw [show List.take L.length Z=Z from List.take_of_length_le (by omega)]
 simp (disch:=(first | omega | (simp only [LNl];omega))) only [↓SDl,SDr,if_pos,if_neg,hco]
theorem liB_j {δ:Type} (l:List Bnd) (i:Nat) (hi:i<l.length) (O:List Bnd) (hl:l.length≤100000) (hO:O.length≤100000) :
 ∃k:Nat,loopO (liB (δ:=δ) l (i:Int) O) (O.length:Int)=some (.inl (k:Int))∧k≤O.length∧(∀j,k≤j→j<O.length→bef (l.getD i dB) (O.getD j dB))∧(k=0∨¬bef (l.getD i dB) (O.getD (k-1) dB)):=by
 obtain ⟨x,hx,hxb⟩:=get_at dB hi
 rw [hx]
 obtain ⟨r,h1,k,rfl,h2⟩:=loopO_post (body:=liB (δ:=δ) l (i:Int) O)
  (fun v=>∃k:Nat,v=(k:Int)∧k≤O.length∧∀j,k≤j→j<O.length→bef x (O.getD j dB))
  (fun r=>∃k:Nat,r = .inl (k:Int)∧k≤O.length∧(∀j,k≤j→j<O.length→bef x (O.getD j dB))∧(k=0∨¬bef x (O.getD (k-1) dB)))
  (fun v=>v.toNat) (fun v hv=>by
    obtain ⟨k,rfl,hk,hb⟩:=hv
    by_cases h0:k=0
    ·subst h0
     refine .inl ⟨.inl ((0:Nat):Int),?_,0,rfl,by omega,hb,.inl rfl⟩
     unfold liB
     simp (disch:=(first | omega | (simp only [LNl];omega))) only [↓SDl,SDr,if_neg]
    ·obtain ⟨y,hy,hyb⟩:=get_at dB (show k-1<O.length by omega)
     have hw:IntKind.wrap .i64 ((k:Int)-1)=((k-1:Nat):Int):=by rw [wrap_i64' (by omega)];omega
     have hbf:=befR_j x y
     by_cases g:bef x y
     ·rw [tf_t g] at hbf
      refine .inr ⟨((k-1:Nat):Int),?_,⟨k-1,rfl,by omega,fun j j1 j2 => ?_⟩,by omega⟩
      ·unfold liB
       simp (disch:=(first | omega | (simp only [LNl];omega))) only [↓SDl,SDr,if_pos,if_neg,↓hxb,↓hyb,hw,hbf]
      ·by_cases e:j=k-1
       ·subst e;rw [hy];exact g
       ·exact hb j (by omega) j2
     ·rw [tf_f g] at hbf
      refine .inl ⟨.inl (k:Int),?_,k,rfl,hk,hb,.inr (by rw [hy];exact g)⟩
      unfold liB
      simp (disch:=(first | omega | (simp only [LNl];omega))) only [↓SDl,SDr,if_pos,if_neg,↓hxb,↓hyb,hw,hbf])
  (x:=(O.length:Int)) ⟨O.length,rfl,Nat.le_refl _,fun j j1 j2=>by omega⟩
 exact ⟨k,h1,h2.1,h2.2.1,h2.2.2⟩
theorem lookR_j (l:List Bnd) (now:Int) (aor:Tx) (hl:l.length≤10000) :
 ∃Z,dialtoneref22_Lookup (l,(now,aor))=some Z∧Z.Perm (liveB l now aor)∧Srt bef Z:=by
 rw [lr_eq]
 refine loopO_postG (P:=fun o=>∃Z,o=some Z∧Z.Perm (liveB l now aor)∧Srt bef Z)
  (fun v:Int×List Bnd=>∃i:Nat,v.1=(i:Int)∧i≤l.length∧v.2.Perm (liveB (l.take i) now aor)∧Srt bef v.2)
  (fun v=>l.length-v.1.toNat) (fun v hv => ?_) (x:=((0:Int),([]:List Bnd))) ⟨0,rfl,Nat.zero_le _,List.Perm.refl _,List.Pairwise.nil⟩
 obtain ⟨v1,O⟩:=v
 obtain ⟨i,rfl,hi,hP,hS⟩:=hv
 simp only at hP hS ⊢
 have lO:O.length≤i:=by
  rw [hP.length_eq]
  exact Nat.le_trans (List.length_filter_le _ _) (by rw [List.length_take];omega)
 have hn:((i:Int)+1)=((i+1:Nat):Int):=rfl
 by_cases h:i<l.length
 ·obtain ⟨x,hx,hxb⟩:=get_at dB h
  have e1:liveB (l.take (i+1)) now aor=if decide (x.1=aor∧now<x.2.2.2.1)=true then liveB (l.take i) now aor++[x] else liveB (l.take i) now aor:=by
   unfold liveB;rw [filter_snoc l dB _ h,hx]
  unfold lrB
  by_cases a1:x.1=aor
  ·by_cases a2:now<x.2.2.2.1
   ·rw [if_pos (decide_eq_true ⟨a1,a2⟩)] at e1
    obtain ⟨k,k1,k2,k3,k4⟩:=liB_j (δ:=List Bnd ⊕ ((Int×List Bnd) ⊕ (List Bnd ⊕ List Bnd))) l i h O (by omega) (by omega)
    rw [hx] at k3 k4
    have htd:List.take (O.length-k) (List.drop k O)=List.drop k O:=List.take_of_length_le (by rw [List.length_drop];exact Nat.le_refl _)
    have hk2:(k:Int)≤(O.length:Int):=by omega
    simp (disch:=(first | omega | (simp only [LNl];omega))) only [↓SDl,SDr,if_pos,if_neg,↓hxb,a1,ne_eq,not_true_eq_false,decide_false,wrap_i64',hn,k1,Int.toNat_natCast,htd]
    have hcut:O.take k++O.drop k=O:=List.take_append_drop k O
    have hbe:∀y∈O.take k,¬bef x y:=fun y hy=>by
     obtain ⟨j,j1,j2,rfl⟩:∃j,j<k∧j<O.length∧O.getD j dB=y:=by
      obtain ⟨j,hj,rfl⟩:=List.getElem_of_mem hy
      rw [List.length_take] at hj
      exact ⟨j,by omega,by omega,by rw [getD_get _ (by omega),List.getElem_take]⟩
     have k4':=k4.resolve_left (by omega)
     by_cases e:j=k-1
     ·subst e;exact k4'
     ·refine bef_tr ?_ k4'
      have:=List.pairwise_iff_getElem.1 hS j (k-1) (by omega) (by omega) (by omega)
      rw [getD_get _ (by omega),getD_get _ (by omega)]
      exact this
    have haf:∀y∈O.drop k,¬bef y x:=fun y hy=>by
     obtain ⟨j,hj,rfl⟩:=List.getElem_of_mem hy
     rw [List.length_drop] at hj
     have:=k3 (k+j) (by omega) (by omega)
     rw [getD_get _ (by omega)] at this
     rw [List.getElem_drop]
     exact bef_asym this
    have hS2:Srt bef (O.take k++O.drop k):=by rw [hcut];exact hS
    have hpp:=List.pairwise_append.1 hS2
    refine .next ⟨i+1,rfl,by omega,?_,?_⟩ (by simp;omega)
    ·rw [e1]
     show (O.take k++[x]++O.drop k).Perm _
     refine List.Perm.trans ?_ (hP.append_right [x])
     rw [List.append_assoc]
     refine (show (O.take k++(x::O.drop k)).Perm (x::(O.take k++O.drop k)) from List.perm_middle).trans ?_
     rw [hcut]
     exact (List.perm_append_singleton x O).symm
    ·show Srt bef (O.take k++[x]++O.drop k)
     rw [List.append_assoc]
     refine List.pairwise_append.2 ⟨hpp.1,List.pairwise_cons.2 ⟨haf,hpp.2.1⟩,fun a ha b hb => ?_⟩
     rcases List.mem_cons.1 (show b∈x::O.drop k from hb) with rfl | g
     ·exact hbe a ha
     ·exact hpp.2.2 a ha b g
   ·rw [if_neg (by rw [decide_eq_false (fun h=>a2 h.2)];decide)] at e1
    simp (disch:=(first | omega | (simp only [LNl];omega))) only [↓SDl,SDr,if_pos,if_neg,↓hxb,a1,ne_eq,not_true_eq_false,decide_false,wrap_i64',hn]
    exact .next ⟨i+1,rfl,by omega,by rw [e1];exact hP,hS⟩ (by simp;omega)
  ·rw [if_neg (by rw [decide_eq_false (fun h=>a1 h.1)];decide)] at e1
   simp (disch:=(first | omega | (simp only [LNl];omega))) only [↓SDl,SDr,if_pos,if_neg,↓hxb,a1,ne_eq,not_false_eq_true,decide_true,wrap_i64',hn]
   exact .next ⟨i+1,rfl,by omega,by rw [e1];exact hP,hS⟩ (by simp;omega)
 ·unfold lrB
  simp (disch:=(first | omega | (simp only [LNl];omega))) only [↓SDl,SDr,if_neg,if_pos]
  refine .stop ?_
  simp (disch:=(first | omega | (simp only [LNl];omega))) only [↓SDl,SDr,if_neg,if_pos]
  have e:i=l.length:=by omega
  subst e
  rw [List.take_length] at hP
  exact ⟨O,rfl,hP,hS⟩
def KeyNe (a b:Bnd):Prop:=a.1=b.1→¬(a.2.2.2.2.1=b.2.2.2.2.1∧a.2.1=b.2.1)
theorem KeyNe.symm {a b:Bnd} (h:KeyNe a b):KeyNe b a:=fun e ⟨h1,h2⟩=>h e.symm ⟨h1.symm,h2.symm⟩
theorem look_both (l:List Bnd) (now:Int) (aor:Tx) (hl:l.length≤10000) (hc:(l.filter fun b=>decide (b.1=aor)).length≤200) (hp:∀b∈l,b.2.2.2.2.2.2.2.2.2.length≤1000) (hk:l.Pairwise KeyNe) :
 ∃Z,registrar_Lookup (l,(now,aor))=some Z∧dialtoneref22_Lookup (l,(now,aor))=some Z∧Z.length≤200∧∀b∈Z,b∈l:=by
 obtain ⟨A,a1,a2,a3⟩:=lookP_j l now aor hl hc hp
 obtain ⟨B,b1,b2,b3⟩:=lookR_j l now aor hl
 have e:A=B:=by
  refine List.Perm.eq_of_pairwise (fun p q hp hq h k => ?_) a3 b3 (a2.trans b2.symm)
  have hp':=List.mem_filter.1 (a2.mem_iff.1 hp)
  have hq':=List.mem_filter.1 (b2.mem_iff.1 hq)
  have e1:=(of_decide_eq_true hp'.2).1
  have e2:=(of_decide_eq_true hq'.2).1
  rcases bef_tri p q with g | g | ⟨_,g2,g3⟩
  ·exact absurd g k
  ·exact absurd g h
  ·by_cases e:p=q
   ·exact e
   exfalso
   have key:KeyNe p q:=by
    obtain ⟨i,hi,rfl⟩:=List.getElem_of_mem hp'.1
    obtain ⟨j,hj,rfl⟩:=List.getElem_of_mem hq'.1
    rcases Nat.lt_trichotomy i j with g | g | g
    ·exact List.pairwise_iff_getElem.1 hk i j hi hj g
    ·subst g;exact absurd rfl e
    ·exact (List.pairwise_iff_getElem.1 hk j i hj hi g).symm
   exact key (e1.trans e2.symm) ⟨g2,g3⟩
 subst e
 refine ⟨A,a1,b1,?_,fun b hb=>(List.mem_filter.1 (a2.mem_iff.1 hb)).1⟩
 rw [a2.length_eq]
 exact Nat.le_trans (live_len l now aor) hc
end Go.Proofs.Ytlaccfegaoaakaa
