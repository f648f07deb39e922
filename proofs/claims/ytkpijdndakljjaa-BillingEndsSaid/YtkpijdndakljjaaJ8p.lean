import Derived.Test.YtkpijdndakljjaaY3p
import Derived.Test.YtkpijdndakljjaaG12p
set_option linter.unusedSimpArgs false
set_option linter.unusedVariables false
set_option maxRecDepth 100000
namespace Go.Proofs.Ytkpijdndakljjaa
open Go.RowKit
abbrev Tx:=List UInt8
abbrev BL:=Tx×(Tx×(Tx×(Int×(Int×(Int×(Int×(Int×(Int×Bool))))))))
abbrev LG:=List Int×(Int×(Int×(List BL×(Int×Int))))
abbrev AC:=Int×(Int×(Int×(Int×(Int×(Tx×(Tx×Tx))))))
def b0:BL:=([],([],([],(0,(0,(0,(0,(0,(0,false)))))))))
noncomputable def ocB {δ:Type} (a1:List BL):(Int)→Option ((Int) ⊕ (Int ⊕ δ)) :=
(fun v2 =>
 bif (decide (v2<(((List.length a1):Nat):Int))) then
 bif (decide (((0:Int)≤v2)∧(v2<(((List.length a1):Nat):Int)))) then
 bindO a1[(Int.toNat v2)]? fun x3 =>
 bif (decide (x3.2.2.2.2.2.2.1=(0:Int))) then
 some (Sum.inl (Go.IntKind.wrap .i64 (v2+(1:Int))))
 else
 outO (some (Sum.inl v2))
 else none
 else
 outO (some (Sum.inl v2)))
theorem oc_eq (a1:List BL):billing_openCount a1 =
 joinO (loopO (ocB a1) (0:Int)) fun v5 =>
 some v5:=rfl
theorem or_eq (g:LG):dialtoneref38_Open g =
 joinO (loopO (ocB g.2.2.2.1) (0:Int)) fun v10 =>
 some v10:=rfl
noncomputable def vaB (g:LG) (x10:Int):(Int×Int)→Option ((Int×Int) ⊕ (Unit ⊕ Bool)) :=
(fun (v11,v12) =>
 bif (decide (v11<(((List.length g.2.2.2.1):Nat):Int))) then
 bif (decide (((0:Int)≤v11)∧(v11<(((List.length g.2.2.2.1):Nat):Int)))) then
 bindO g.2.2.2.1[(Int.toNat v11)]? fun x13 =>
 bindO (billing_validBill (x13,g.2.2.2.2.2)) fun x14 =>
 bif (!x14) then
 outO (outO (some Bool.false))
 else
 bif (decide (v11<x10)) then
 bif (decide (v11 > (0:Int))) then
 bindO (some (Go.IntKind.wrap .i64 (v11-(1:Int)))) fun x15 =>
 bif (decide (((0:Int)≤x15)∧(x15<(((List.length g.2.2.2.1):Nat):Int)))) then
 bindO g.2.2.2.1[(Int.toNat x15)]? fun x16 =>
 bif (!(Go.Op.bytesLess x16.1 x13.1)) then
 outO (outO (some Bool.false))
 else
 some (Sum.inl ((Go.IntKind.wrap .i64 (v11+(1:Int))),v12))
 else none
 else
 some (Sum.inl ((Go.IntKind.wrap .i64 (v11+(1:Int))),v12))
 else
 bindO (billing_within (x13.2.2.2.2.2.2.1,((Go.IntKind.wrap .i64 (v12+(1:Int))),g.2.2.2.2.1))) fun x20 =>
 bif (!x20) then
 outO (outO (some Bool.false))
 else
 some (Sum.inl ((Go.IntKind.wrap .i64 (v11+(1:Int))),x13.2.2.2.2.2.2.1))
 else none
 else
 outO (some (Sum.inl ())))
theorem va_eq (g:LG):billing_Valid g =
 joinO (bindO (journal_Valid (g.1,(g.2.1,g.2.2.1))) fun x7 =>
 bif (!x7) then
 outO (some Bool.false)
 else
 bindO (billing_within (g.2.2.2.2.2,((0:Int),(1099511627776:Int)))) fun x8 =>
 bif (!x8) then
 outO (some Bool.false)
 else
 bindO (billing_within (g.2.2.2.2.1,((0:Int),(1048576:Int)))) fun x9 =>
 bif (!x9) then
 outO (some Bool.false)
 else
 some (Sum.inl ())) fun _ =>
 bindO (billing_openCount g.2.2.2.1) fun x10 =>
 bif (decide (x10 > (256:Int))) then
  some Bool.false
 else
  joinO (loopO (vaB g x10) ((0:Int),(0:Int))) fun _ =>
  some Bool.true:=rfl
noncomputable def vrB (g:LG) (x8:Int):(Int×Int)→Option ((Int×Int) ⊕ (Unit ⊕ Bool)) :=
(fun (v9,v10) =>
 bif (decide (v9<(((List.length g.2.2.2.1):Nat):Int))) then
 bif (decide (((0:Int)≤v9)∧(v9<(((List.length g.2.2.2.1):Nat):Int)))) then
 bindO g.2.2.2.1[(Int.toNat v9)]? fun x11 =>
 bindO (dialtoneref38_bill (x11,g.2.2.2.2.2)) fun x12 =>
 bif (!x12) then
 outO (outO (some Bool.false))
 else
 bif (decide (v9<x8)) then
 bif (decide (v9 > (0:Int))) then
 bindO (some (Go.IntKind.wrap .i64 (v9-(1:Int)))) fun x13 =>
 bif (decide (((0:Int)≤x13)∧(x13<(((List.length g.2.2.2.1):Nat):Int)))) then
 bindO g.2.2.2.1[(Int.toNat x13)]? fun x14 =>
 bif (!(Go.Op.bytesLess x14.1 x11.1)) then
 outO (outO (some Bool.false))
 else
 some (Sum.inl ((Go.IntKind.wrap .i64 (v9+(1:Int))),v10))
 else none
 else
 some (Sum.inl ((Go.IntKind.wrap .i64 (v9+(1:Int))),v10))
 else
 bif (decide (x11.2.2.2.2.2.2.1≤v10)) then
 outO (outO (some Bool.false))
 else
 bif (decide (x11.2.2.2.2.2.2.1 > g.2.2.2.2.1)) then
 outO (outO (some Bool.false))
 else
 some (Sum.inl ((Go.IntKind.wrap .i64 (v9+(1:Int))),x11.2.2.2.2.2.2.1))
 else none
 else
 outO (some (Sum.inl ())))
theorem vr_eq (g:LG):dialtoneref38_Valid g =
 joinO (bindO (dialtoneref20_Valid (g.1,(g.2.1,g.2.2.1))) fun x7 =>
 bif (!x7) then
 outO (some Bool.false)
 else
 bif (decide (g.2.2.2.2.2<(0:Int))) then
 outO (some Bool.false)
 else
 bif (decide (g.2.2.2.2.2 > (1099511627776:Int))) then
 outO (some Bool.false)
 else
 bif (decide (g.2.2.2.2.1<(0:Int))) then
 outO (some Bool.false)
 else
 bif (decide (g.2.2.2.2.1 > (1048576:Int))) then
 outO (some Bool.false)
 else
 some (Sum.inl ())) fun _ =>
 bindO (dialtoneref38_Open g) fun x8 =>
 joinO (loopO (vrB g x8) ((0:Int),(0:Int))) fun _ =>
 some (decide (x8≤(256:Int))):=rfl
noncomputable def plB {δ:Type} (a1:List BL) (a2:Tx):(Int×Int)→Option ((Int×Int) ⊕ (Int ⊕ δ)) :=
(fun (v3,v4) =>
 bif (decide (v4<v3)) then
 bindO (some (Int.fdiv (Go.IntKind.wrap .u64 (Go.IntKind.wrap .i64 (v4+v3))) (2:Int))) fun x7 =>
 bif (decide (((0:Int)≤(Go.IntKind.wrap .i64 x7))∧((Go.IntKind.wrap .i64 x7)<(((List.length a1):Nat):Int)))) then
 bindO a1[(Int.toNat (Go.IntKind.wrap .i64 x7))]? fun x9 =>
 bif (!(!(Go.Op.bytesLess x9.1 a2))) then
 some (Sum.inl (v3,(Go.IntKind.wrap .i64 ((Go.IntKind.wrap .i64 x7)+(1:Int)))))
 else
 some (Sum.inl ((Go.IntKind.wrap .i64 x7),v4))
 else none
 else
 outO (some (Sum.inl v4)))
theorem pl_eq (a1:List BL) (a2:Tx):billing_place (a1,a2) =
 joinO (joinO (loopO (plB a1 a2) ((((List.length a1):Nat):Int),(0:Int))) fun v11 =>
 some (Sum.inl v11)) fun v12 =>
 bif (decide (v12<(((List.length a1):Nat):Int))) then
  bif (decide (((0:Int)≤v12)∧(v12<(((List.length a1):Nat):Int)))) then
   bindO a1[(Int.toNat v12)]? fun x13 =>
   some (v12,(decide (x13.1=a2)))
  else none
 else
  some (v12,Bool.false):=rfl
noncomputable def d8B {δ:Type} (x5:Int):(Int×List Int)→Option ((Int×List Int) ⊕ ((Int×(List Int×Int)) ⊕ δ)) :=
(fun (v6,v7) =>
 bif (decide (v6≥(0:Int))) then
 bif (decide ((0:Int)≤v6)) then
 bindO (some (Int.fdiv (Go.IntKind.wrap .u64 x5) ((2:Int) ^ (Min.min (Int.toNat v6) 64)))) fun x9 =>
 bif (decide ((List.length v7)≤(List.length v7))) then
 bif (decide (((List.length ((List.take (List.length v7) v7)++((Go.IntKind.wrap .u8 x9)::([]:List Int))))*1)≤140737488355328)) then
 bindO (some ((List.take (List.length v7) v7)++((Go.IntKind.wrap .u8 x9)::([]:List Int)))) fun x11 =>
 bif (decide ((List.length x11)≤(List.length x11))) then
 some (Sum.inl ((Go.IntKind.wrap .i64 (v6-(8:Int))),(List.take (List.length x11) x11)))
 else none
 else none
 else none
 else none
 else
 outO (bif (decide ((List.length v7)≤(List.length v7))) then
 some (Sum.inl (v6,((List.take (List.length v7) v7),x5)))
 else none))
noncomputable def dnB {δ:Type} (a1:List Int):(Int×List Int)→Option ((Int×List Int) ⊕ (List Int ⊕ δ)) :=
(fun (v3,v4) =>
 bif (decide (v3<(((List.length a1):Nat):Int))) then
 joinO (bif (decide (((0:Int)≤v3)∧(v3<(((List.length a1):Nat):Int)))) then
 bindO a1[(Int.toNat v3)]? fun x5 =>
 bif (decide ((List.length v4)≤(List.length v4))) then
 loopO (d8B x5) ((56:Int),(List.take (List.length v4) v4))
 else none
 else none) fun (v13,(v14,v15)) =>
 bif (decide ((List.length v14)≤(List.length v14))) then
 some (Sum.inl ((Go.IntKind.wrap .i64 (v3+(1:Int))),(List.take (List.length v14) v14)))
 else none
 else
 outO (bif (decide ((List.length v4)≤(List.length v4))) then
 some (Sum.inl (List.take (List.length v4) v4))
 else none))
noncomputable def dtB {δ:Type} (a2:List Tx):(Int×List Int)→Option ((Int×List Int) ⊕ (List Int ⊕ δ)) :=
(fun (v18,v19) =>
 bif (decide (v18<(((List.length a2):Nat):Int))) then
 bif (decide (((0:Int)≤v18)∧(v18<(((List.length a2):Nat):Int)))) then
 bindO a2[(Int.toNat v18)]? fun x20 =>
 bindO (some (Int.fdiv (((List.length x20):Nat):Int) (256:Int))) fun x21 =>
 bindO (some (Go.IntKind.wrap .u8 (((List.length x20):Nat):Int))) fun x23 =>
 bif (decide ((List.length v19)≤(List.length v19))) then
 bif (decide (((List.length ((List.take (List.length v19) v19)++((Go.IntKind.wrap .u8 x21)::(x23::([]:List Int)))))*1)≤140737488355328)) then
 bindO (some ((List.take (List.length v19) v19)++((Go.IntKind.wrap .u8 x21)::(x23::([]:List Int))))) fun x24 =>
 bif (decide ((List.length x24)≤(List.length x24))) then
 bif (decide (((List.length ((List.take (List.length x24) x24)++(List.map (fun (x25:UInt8)=>(((UInt8.toNat x25):Nat):Int)) x20)))*1)≤140737488355328)) then
 bindO (some ((List.take (List.length x24) x24)++(List.map (fun (x27:UInt8)=>(((UInt8.toNat x27):Nat):Int)) x20))) fun x26 =>
 bif (decide ((List.length x26)≤(List.length x26))) then
 some (Sum.inl ((Go.IntKind.wrap .i64 (v18+(1:Int))),(List.take (List.length x26) x26)))
 else none
 else none
 else none
 else none
 else none
 else none
 else
 outO (bif (decide ((List.length v19)≤(List.length v19))) then
 some (Sum.inl (List.take (List.length v19) v19))
 else none))
theorem da_eq (a1:List Int) (a2:List Tx):billing_data (a1,a2) =
 joinO (loopO (dnB a1) ((0:Int),([]:List Int))) fun v17 =>
 joinO (bif (decide ((List.length v17)≤(List.length v17))) then
 loopO (dtB a2) ((0:Int),(List.take (List.length v17) v17))
 else none) fun v29 =>
 bif (decide ((List.length v29)≤(List.length v29))) then
  some (List.take (List.length v29) v29)
 else none:=rfl
noncomputable def nuB {δ:Type}  : (Int×(Int×List Int))→Option ((Int×(Int×List Int)) ⊕ (List Int ⊕ δ)) :=
(fun (v2,(v3,v4)) =>
 bif (decide (v2≥(0:Int))) then
 bif (decide (((0:Int)≤v2)∧(v2<(8:Int)))) then
 bindO v4[(Int.toNat v2)]? fun x7 =>
 some (Sum.inl ((Go.IntKind.wrap .i64 (v2-(1:Int))),((Go.IntKind.wrap .i64 (Int.tdiv v3 (256:Int))),(List.set v4 (Int.toNat v2) (Go.IntKind.wrap .u8 (Int.tmod v3 (256:Int)))))))
 else none
 else
 outO (some (Sum.inl v4)))
theorem nu_eq (a1:Int):dialtoneref38_number a1 =
 joinO (loopO nuB ((7:Int),(a1,(List.replicate 8 (0:Int))))) fun v10 =>
 bif (decide (8≤(List.length v10))) then
  some (List.take 8 v10)
 else none:=rfl
noncomputable def drB {δ:Type} (a1:List Int):(Int×List Int)→Option ((Int×List Int) ⊕ (List Int ⊕ δ)) :=
(fun (v3,v4) =>
 bif (decide (v3<(((List.length a1):Nat):Int))) then
 bif (decide (((0:Int)≤v3)∧(v3<(((List.length a1):Nat):Int)))) then
 bindO a1[(Int.toNat v3)]? fun x5 =>
 bindO (dialtoneref38_number x5) fun x6 =>
 bif (decide ((List.length v4)≤(List.length v4))) then
 bif (decide (((List.length ((List.take (List.length v4) v4)++x6))*1)≤140737488355328)) then
 bindO (some ((List.take (List.length v4) v4)++x6)) fun x7 =>
 bif (decide ((List.length x7)≤(List.length x7))) then
 some (Sum.inl ((Go.IntKind.wrap .i64 (v3+(1:Int))),(List.take (List.length x7) x7)))
 else none
 else none
 else none
 else none
 else
 outO (bif (decide ((List.length v4)≤(List.length v4))) then
 some (Sum.inl (List.take (List.length v4) v4))
 else none))
noncomputable def trB {δ:Type} (a2:List Tx):(Int×List Int)→Option ((Int×List Int) ⊕ (List Int ⊕ δ)) :=
(fun (v10,v11) =>
 bif (decide (v10<(((List.length a2):Nat):Int))) then
 bif (decide (((0:Int)≤v10)∧(v10<(((List.length a2):Nat):Int)))) then
 bindO a2[(Int.toNat v10)]? fun x12 =>
 bindO (some (Go.IntKind.wrap .i64 (Int.tdiv (((List.length x12):Nat):Int) (256:Int)))) fun x13 =>
 bif (decide (((0:Int)≤v10)∧(v10<(((List.length a2):Nat):Int)))) then
 bindO a2[(Int.toNat v10)]? fun x15 =>
 bindO (some (Int.tmod (((List.length x15):Nat):Int) (256:Int))) fun x16 =>
 bif (decide ((List.length v11)≤(List.length v11))) then
 bif (decide (((List.length ((List.take (List.length v11) v11)++((Go.IntKind.wrap .u8 x13)::((Go.IntKind.wrap .u8 x16)::([]:List Int)))))*1)≤140737488355328)) then
 bindO (some ((List.take (List.length v11) v11)++((Go.IntKind.wrap .u8 x13)::((Go.IntKind.wrap .u8 x16)::([]:List Int))))) fun x18 =>
 bif (decide (((0:Int)≤v10)∧(v10<(((List.length a2):Nat):Int)))) then
 bindO a2[(Int.toNat v10)]? fun x19 =>
 bif (decide ((List.length x19)≤140737488355328)) then
 bif (decide ((List.length x18)≤(List.length x18))) then
 bif (decide (((List.length ((List.take (List.length x18) x18)++(List.map (fun (x20:UInt8)=>(((UInt8.toNat x20):Nat):Int)) x19)))*1)≤140737488355328)) then
 bindO (some ((List.take (List.length x18) x18)++(List.map (fun (x22:UInt8)=>(((UInt8.toNat x22):Nat):Int)) x19))) fun x21 =>
 bif (decide ((List.length x21)≤(List.length x21))) then
 some (Sum.inl ((Go.IntKind.wrap .i64 (v10+(1:Int))),(List.take (List.length x21) x21)))
 else none
 else none
 else none
 else none
 else none
 else none
 else none
 else none
 else none
 else
 outO (bif (decide ((List.length v11)≤(List.length v11))) then
 some (Sum.inl (List.take (List.length v11) v11))
 else none))
theorem dr_eq (a1:List Int) (a2:List Tx):dialtoneref38_data (a1,a2) =
 joinO (loopO (drB a1) ((0:Int),([]:List Int))) fun v9 =>
 joinO (bif (decide ((List.length v9)≤(List.length v9))) then
 loopO (trB a2) ((0:Int),(List.take (List.length v9) v9))
 else none) fun v24 =>
 bif (decide ((List.length v24)≤(List.length v24))) then
  some (List.take (List.length v24) v24)
 else none:=rfl
noncomputable def fdB (g:LG) (a7:Tx):(Int)→Option ((Int) ⊕ (Unit ⊕ Int)) :=
(fun v8 =>
 bindO (dialtoneref38_Open g) fun x9 =>
 bif (decide (v8<x9)) then
 bif (decide (((0:Int)≤v8)∧(v8<(((List.length g.2.2.2.1):Nat):Int)))) then
 bindO g.2.2.2.1[(Int.toNat v8)]? fun x10 =>
 bif (decide (x10.1=a7)) then
 outO (outO (some v8))
 else
 some (Sum.inl (Go.IntKind.wrap .i64 (v8+(1:Int))))
 else none
 else
 outO (some (Sum.inl ())))
theorem fd_eq (g:LG) (a7:Tx):dialtoneref38_find (g,a7) =
 joinO (loopO (fdB g a7) (0:Int)) fun _ =>
 some (-1:Int):=rfl
noncomputable def rcB (g:LG) (a7:Int):(Int)→Option ((Int) ⊕ (Unit ⊕ Int)) :=
(fun v8 =>
 bif (decide (v8<(((List.length g.2.2.2.1):Nat):Int))) then
 bif (decide (a7 > (0:Int))) then
 bif (decide (((0:Int)≤v8)∧(v8<(((List.length g.2.2.2.1):Nat):Int)))) then
 bindO g.2.2.2.1[(Int.toNat v8)]? fun x9 =>
 bif (decide (x9.2.2.2.2.2.2.1=a7)) then
 outO (outO (some v8))
 else
 some (Sum.inl (Go.IntKind.wrap .i64 (v8+(1:Int))))
 else none
 else
 some (Sum.inl (Go.IntKind.wrap .i64 (v8+(1:Int))))
 else
 outO (some (Sum.inl ())))
theorem rc_eq (g:LG) (a7:Int):dialtoneref38_record (g,a7) =
 joinO (loopO (rcB g a7) (0:Int)) fun _ =>
 some (-1:Int):=rfl
noncomputable def nxB (g:LG):(Int)→Option ((Int) ⊕ (Unit ⊕ (BL×Bool))) :=
(fun v8 =>
 bif (decide (v8<(((List.length g.2.2.2.1):Nat):Int))) then
 bif (decide (((0:Int)≤v8)∧(v8<(((List.length g.2.2.2.1):Nat):Int)))) then
 bindO g.2.2.2.1[(Int.toNat v8)]? fun x9 =>
 bif (decide (x9.2.2.2.2.2.2.1≠(0:Int))) then
 bif (!x9.2.2.2.2.2.2.2.2.2) then
 outO (outO (some (x9,Bool.true)))
 else
 some (Sum.inl (Go.IntKind.wrap .i64 (v8+(1:Int))))
 else
 some (Sum.inl (Go.IntKind.wrap .i64 (v8+(1:Int))))
 else none
 else
 outO (some (Sum.inl ())))
theorem nx_eq (g:LG):billing_Next g =
 bindO (billing_Valid g) fun x7 =>
 bif (!x7) then
  some ((([]:List UInt8),(([]:List UInt8),(([]:List UInt8),((0:Int),((0:Int),((0:Int),((0:Int),((0:Int),((0:Int),Bool.false))))))))),Bool.false)
 else
  bif (decide (g.2.1≠(((List.length g.1):Nat):Int))) then
   some ((([]:List UInt8),(([]:List UInt8),(([]:List UInt8),((0:Int),((0:Int),((0:Int),((0:Int),((0:Int),((0:Int),Bool.false))))))))),Bool.false)
  else
   joinO (loopO (nxB g) (0:Int)) fun _ =>
   some ((([]:List UInt8),(([]:List UInt8),(([]:List UInt8),((0:Int),((0:Int),((0:Int),((0:Int),((0:Int),((0:Int),Bool.false))))))))),Bool.false):=rfl
noncomputable def nrB (g:LG):(Int)→Option ((Int) ⊕ (Unit ⊕ (BL×Bool))) :=
(fun v9 =>
 bif (decide (v9<(((List.length g.2.2.2.1):Nat):Int))) then
 bif (decide (((0:Int)≤v9)∧(v9<(((List.length g.2.2.2.1):Nat):Int)))) then
 bindO g.2.2.2.1[(Int.toNat v9)]? fun x10 =>
 bif (!x10.2.2.2.2.2.2.2.2.2) then
 bif (decide (((0:Int)≤v9)∧(v9<(((List.length g.2.2.2.1):Nat):Int)))) then
 bindO g.2.2.2.1[(Int.toNat v9)]? fun x11 =>
 outO (outO (some (x11,Bool.true)))
 else none
 else
 some (Sum.inl (Go.IntKind.wrap .i64 (v9+(1:Int))))
 else none
 else
 outO (some (Sum.inl ())))
theorem nr_eq (g:LG):dialtoneref38_Next g =
 bindO (dialtoneref38_Valid g) fun x7 =>
 bif (!x7) then
  some ((([]:List UInt8),(([]:List UInt8),(([]:List UInt8),((0:Int),((0:Int),((0:Int),((0:Int),((0:Int),((0:Int),Bool.false))))))))),Bool.false)
 else
  bif (decide (g.2.1≠(((List.length g.1):Nat):Int))) then
   some ((([]:List UInt8),(([]:List UInt8),(([]:List UInt8),((0:Int),((0:Int),((0:Int),((0:Int),((0:Int),((0:Int),Bool.false))))))))),Bool.false)
  else
   joinO (bindO (dialtoneref38_Open g) fun x8 =>
 loopO (nrB g) x8) fun _ =>
   some ((([]:List UInt8),(([]:List UInt8),(([]:List UInt8),((0:Int),((0:Int),((0:Int),((0:Int),((0:Int),((0:Int),Bool.false))))))))),Bool.false):=rfl
noncomputable def gvB (g:LG) (a7:Int):(Int)→Option ((Int) ⊕ (Unit ⊕ (Int ⊕ (LG×Int)))) :=
(fun v9 =>
 bif (decide (v9<(((List.length g.2.2.2.1):Nat):Int))) then
 bif (decide (((0:Int)≤v9)∧(v9<(((List.length g.2.2.2.1):Nat):Int)))) then
 bindO g.2.2.2.1[(Int.toNat v9)]? fun x10 =>
 bif (decide (x10.2.2.2.2.2.2.1≠(0:Int))) then
 bif (decide (x10.2.2.2.2.2.2.1=a7)) then
 outO (outO (some (Sum.inl v9)))
 else
 some (Sum.inl (Go.IntKind.wrap .i64 (v9+(1:Int))))
 else
 some (Sum.inl (Go.IntKind.wrap .i64 (v9+(1:Int))))
 else none
 else
 outO (some (Sum.inl ())))
theorem gv_eq (g:LG) (a7:Int):billing_Given (g,a7) =
 bindO (billing_Valid g) fun x8 =>
 bif (!x8) then
  some ((([]:List Int),((0:Int),((0:Int),(([]:List BL),((0:Int),(0:Int)))))),(2:Int))
 else
  joinO (joinO (loopO (gvB g a7) (0:Int)) fun _ =>
 some (Sum.inl (-1:Int))) fun v13 =>
  bif (decide (v13<(0:Int))) then
   some ((([]:List Int),((0:Int),((0:Int),(([]:List BL),((0:Int),(0:Int)))))),(8:Int))
  else
   bif (decide (((0:Int)≤v13)∧(v13<(((List.length g.2.2.2.1):Nat):Int)))) then
    bindO g.2.2.2.1[(Int.toNat v13)]? fun x14 =>
    bif x14.2.2.2.2.2.2.2.2.2 then
     some ((([]:List Int),((0:Int),((0:Int),(([]:List BL),((0:Int),(0:Int)))))),(9:Int))
    else
     bindO (billing_data ((a7::([]:List Int)),([]:List (List UInt8)))) fun x15 =>
     bindO (billing_write ((g.1,(g.2.1,g.2.2.1)),((5:Int),x15))) fun ((x17,(x18,x19)),x20) =>
     bif (decide (x20≠(0:Int))) then
      some ((([]:List Int),((0:Int),((0:Int),(([]:List BL),((0:Int),(0:Int)))))),x20)
     else
      bindO (cloneG g.2.2.2.1) fun x21 =>
      bif (decide (((0:Int)≤v13)∧(v13<(((List.length x21):Nat):Int)))) then
       bindO x21[(Int.toNat v13)]? fun x22 =>
       bif (decide ((List.length x21)≤(List.length (List.set x21 (Int.toNat v13) (x22.1,(x22.2.1,(x22.2.2.1,(x22.2.2.2.1,(x22.2.2.2.2.1,(x22.2.2.2.2.2.1,(x22.2.2.2.2.2.2.1,(x22.2.2.2.2.2.2.2.1,(x22.2.2.2.2.2.2.2.2.1,Bool.true))))))))))))) then
        some ((x17,(x18,(x19,((List.take (List.length x21) (List.set x21 (Int.toNat v13) (x22.1,(x22.2.1,(x22.2.2.1,(x22.2.2.2.1,(x22.2.2.2.2.1,(x22.2.2.2.2.2.1,(x22.2.2.2.2.2.2.1,(x22.2.2.2.2.2.2.2.1,(x22.2.2.2.2.2.2.2.2.1,Bool.true))))))))))),(g.2.2.2.2.1,g.2.2.2.2.2))))),(0:Int))
       else none
      else none
   else none:=rfl
noncomputable def sbB (a1 a2:List BL):(Int)→Option ((Int) ⊕ (Unit ⊕ Bool)) :=
(fun v3 =>
 bif (decide (v3<(((List.length a1):Nat):Int))) then
 bif (decide (((0:Int)≤v3)∧(v3<(((List.length a1):Nat):Int)))) then
 bindO a1[(Int.toNat v3)]? fun x4 =>
 bif (decide (((0:Int)≤v3)∧(v3<(((List.length a2):Nat):Int)))) then
 bindO a2[(Int.toNat v3)]? fun x5 =>
 bif (!((decide (x4.1=x5.1))&&((decide (x4.2.1=x5.2.1))&&((decide (x4.2.2.1=x5.2.2.1))&&((decide (x4.2.2.2.1=x5.2.2.2.1))&&((decide (x4.2.2.2.2.1=x5.2.2.2.2.1))&&((decide (x4.2.2.2.2.2.1=x5.2.2.2.2.2.1))&&((decide (x4.2.2.2.2.2.2.1=x5.2.2.2.2.2.2.1))&&((decide (x4.2.2.2.2.2.2.2.1=x5.2.2.2.2.2.2.2.1))&&((decide (x4.2.2.2.2.2.2.2.2.1=x5.2.2.2.2.2.2.2.2.1))&&(x4.2.2.2.2.2.2.2.2.2==x5.2.2.2.2.2.2.2.2.2))))))))))) then
 outO (outO (some Bool.false))
 else
 some (Sum.inl (Go.IntKind.wrap .i64 (v3+(1:Int))))
 else none
 else none
 else
 outO (some (Sum.inl ())))
theorem sb_eq (a1 a2:List BL):dialtoneref38_SameBills (a1,a2) =
 bif (decide ((((List.length a1):Nat):Int)≠(((List.length a2):Nat):Int))) then
  some Bool.false
 else
  joinO (loopO (sbB a1 a2) (0:Int)) fun _ =>
  some Bool.true:=rfl
theorem fi_eq (g:LG) (a7:Tx):billing_find (g,a7) =
 bindO (billing_openCount g.2.2.2.1) fun x8 =>
 bif (decide (((0:Int)≤x8)∧(x8≤(((List.length g.2.2.2.1):Nat):Int)))) then
  bindO (billing_place ((List.take (Int.toNat x8) g.2.2.2.1),a7)) fun (x11,x12) =>
  some (x11,x12)
 else none:=rfl
theorem bg_eq (g:LG) (b:BL):billing_Begin (g,b) =
 joinO (bindO (billing_Valid g) fun x17 =>
 bif (!x17) then
 outO (some ((([]:List Int),((0:Int),((0:Int),(([]:List BL),((0:Int),(0:Int)))))),(2:Int)))
 else
 bindO (billing_within (b.2.2.2.1,(g.2.2.2.2.2,(1099511627776:Int)))) fun x18 =>
 bif (!x18) then
 outO (some ((([]:List Int),((0:Int),((0:Int),(([]:List BL),((0:Int),(0:Int)))))),(2:Int)))
 else
 bindO (billing_within ((((List.length b.1):Nat):Int),((1:Int),(200:Int)))) fun x19 =>
 bif (!x19) then
 outO (some ((([]:List Int),((0:Int),((0:Int),(([]:List BL),((0:Int),(0:Int)))))),(2:Int)))
 else
 bif (decide ((((List.length b.2.1):Nat):Int) > (200:Int))) then
 outO (some ((([]:List Int),((0:Int),((0:Int),(([]:List BL),((0:Int),(0:Int)))))),(2:Int)))
 else
 bif (decide ((((List.length b.2.2.1):Nat):Int) > (200:Int))) then
 outO (some ((([]:List Int),((0:Int),((0:Int),(([]:List BL),((0:Int),(0:Int)))))),(2:Int)))
 else
 some (Sum.inl ())) fun _ =>
 bindO (billing_find (g,b.1)) fun (x21,x22) =>
 bif x22 then
  some ((([]:List Int),((0:Int),((0:Int),(([]:List BL),((0:Int),(0:Int)))))),(7:Int))
 else
  bindO (billing_openCount g.2.2.2.1) fun x23 =>
  bif (decide (x23≥(256:Int))) then
   some ((([]:List Int),((0:Int),((0:Int),(([]:List BL),((0:Int),(0:Int)))))),(10:Int))
  else
   bindO (billing_data ((b.2.2.2.1::([]:List Int)),(b.1::(b.2.1::(b.2.2.1::([]:List (List UInt8))))))) fun x24 =>
   bindO (billing_write ((g.1,(g.2.1,g.2.2.1)),((1:Int),x24))) fun ((x26,(x27,x28)),x29) =>
   bif (decide (x29≠(0:Int))) then
    some ((([]:List Int),((0:Int),((0:Int),(([]:List BL),((0:Int),(0:Int)))))),x29)
   else
    bindO (cloneG g.2.2.2.1) fun x30 =>
    bindO (billing_begun (b.2.2.2.1,(b.1,(b.2.1,b.2.2.1)))) fun (x32,(x33,(x34,(x35,(x36,(x37,(x38,(x39,(x40,x41))))))))) =>
    bif ((decide ((List.length x30)=(List.length x30)))&&Bool.true) then
     bindO (insG (x30,(x21,((x32,(x33,(x34,(x35,(x36,(x37,(x38,(x39,(x40,x41)))))))))::([]:List BL))))) fun x42 =>
     bif (decide ((List.length x42)≤(List.length x42))) then
      some ((x26,(x27,(x28,((List.take (List.length x42) x42),(g.2.2.2.2.1,b.2.2.2.1))))),(0:Int))
     else none
    else none:=rfl
theorem to_eq (g:LG) (a7:Int) (a8:Tx) (a9:Int):billing_touch (g,(a7,(a8,a9))) =
 bindO (billing_Valid g) fun x10 =>
 bif (!x10) then
  some ((([]:List Int),((0:Int),((0:Int),(([]:List BL),((0:Int),(0:Int)))))),(2:Int))
 else
  bindO (billing_within (a9,(g.2.2.2.2.2,(1099511627776:Int)))) fun x11 =>
  bif (!x11) then
   some ((([]:List Int),((0:Int),((0:Int),(([]:List BL),((0:Int),(0:Int)))))),(2:Int))
  else
   bindO (billing_find (g,a8)) fun (x13,x14) =>
   bif (!x14) then
    some ((([]:List Int),((0:Int),((0:Int),(([]:List BL),((0:Int),(0:Int)))))),(8:Int))
   else
    bif (decide (a7=(2:Int))) then
     bif (decide (((0:Int)≤x13)∧(x13<(((List.length g.2.2.2.1):Nat):Int)))) then
      bindO g.2.2.2.1[(Int.toNat x13)]? fun x15 =>
      bif (decide (x15.2.2.2.2.1≠(-1:Int))) then
       some ((([]:List Int),((0:Int),((0:Int),(([]:List BL),((0:Int),(0:Int)))))),(9:Int))
      else
       bindO (billing_data ((a9::([]:List Int)),(a8::([]:List (List UInt8))))) fun x16 =>
       bindO (billing_write ((g.1,(g.2.1,g.2.2.1)),(a7,x16))) fun ((x18,(x19,x20)),x21) =>
       bif (decide (x21≠(0:Int))) then
        some ((([]:List Int),((0:Int),((0:Int),(([]:List BL),((0:Int),(0:Int)))))),x21)
       else
        bindO (cloneG g.2.2.2.1) fun x22 =>
        bif (decide (((0:Int)≤x13)∧(x13<(((List.length x22):Nat):Int)))) then
         bindO x22[(Int.toNat x13)]? fun x23 =>
         bif (decide (a7=(2:Int))) then
          bif (decide (((0:Int)≤x13)∧(x13<(((List.length x22):Nat):Int)))) then
           bindO (List.set x22 (Int.toNat x13) (x23.1,(x23.2.1,(x23.2.2.1,(x23.2.2.2.1,(x23.2.2.2.2.1,(a9,(x23.2.2.2.2.2.2.1,(x23.2.2.2.2.2.2.2.1,(x23.2.2.2.2.2.2.2.2.1,x23.2.2.2.2.2.2.2.2.2))))))))))[(Int.toNat x13)]? fun x24 =>
           bif (decide ((List.length x22)≤(List.length (List.set (List.set x22 (Int.toNat x13) (x23.1,(x23.2.1,(x23.2.2.1,(x23.2.2.2.1,(x23.2.2.2.2.1,(a9,(x23.2.2.2.2.2.2.1,(x23.2.2.2.2.2.2.2.1,(x23.2.2.2.2.2.2.2.2.1,x23.2.2.2.2.2.2.2.2.2)))))))))) (Int.toNat x13) (x24.1,(x24.2.1,(x24.2.2.1,(x24.2.2.2.1,(a9,(x24.2.2.2.2.2.1,(x24.2.2.2.2.2.2.1,(x24.2.2.2.2.2.2.2.1,(x24.2.2.2.2.2.2.2.2.1,x24.2.2.2.2.2.2.2.2.2))))))))))))) then
            some ((x18,(x19,(x20,((List.take (List.length x22) (List.set (List.set x22 (Int.toNat x13) (x23.1,(x23.2.1,(x23.2.2.1,(x23.2.2.2.1,(x23.2.2.2.2.1,(a9,(x23.2.2.2.2.2.2.1,(x23.2.2.2.2.2.2.2.1,(x23.2.2.2.2.2.2.2.2.1,x23.2.2.2.2.2.2.2.2.2)))))))))) (Int.toNat x13) (x24.1,(x24.2.1,(x24.2.2.1,(x24.2.2.2.1,(a9,(x24.2.2.2.2.2.1,(x24.2.2.2.2.2.2.1,(x24.2.2.2.2.2.2.2.1,(x24.2.2.2.2.2.2.2.2.1,x24.2.2.2.2.2.2.2.2.2))))))))))),(g.2.2.2.2.1,a9))))),(0:Int))
           else none
          else none
         else
          bif (decide ((List.length x22)≤(List.length (List.set x22 (Int.toNat x13) (x23.1,(x23.2.1,(x23.2.2.1,(x23.2.2.2.1,(x23.2.2.2.2.1,(a9,(x23.2.2.2.2.2.2.1,(x23.2.2.2.2.2.2.2.1,(x23.2.2.2.2.2.2.2.2.1,x23.2.2.2.2.2.2.2.2.2))))))))))))) then
           some ((x18,(x19,(x20,((List.take (List.length x22) (List.set x22 (Int.toNat x13) (x23.1,(x23.2.1,(x23.2.2.1,(x23.2.2.2.1,(x23.2.2.2.2.1,(a9,(x23.2.2.2.2.2.2.1,(x23.2.2.2.2.2.2.2.1,(x23.2.2.2.2.2.2.2.2.1,x23.2.2.2.2.2.2.2.2.2))))))))))),(g.2.2.2.2.1,a9))))),(0:Int))
          else none
        else none
     else none
    else
     bindO (billing_data ((a9::([]:List Int)),(a8::([]:List (List UInt8))))) fun x25 =>
     bindO (billing_write ((g.1,(g.2.1,g.2.2.1)),(a7,x25))) fun ((x27,(x28,x29)),x30) =>
     bif (decide (x30≠(0:Int))) then
      some ((([]:List Int),((0:Int),((0:Int),(([]:List BL),((0:Int),(0:Int)))))),x30)
     else
      bindO (cloneG g.2.2.2.1) fun x31 =>
      bif (decide (((0:Int)≤x13)∧(x13<(((List.length x31):Nat):Int)))) then
       bindO x31[(Int.toNat x13)]? fun x32 =>
       bif (decide (a7=(2:Int))) then
        bif (decide (((0:Int)≤x13)∧(x13<(((List.length x31):Nat):Int)))) then
         bindO (List.set x31 (Int.toNat x13) (x32.1,(x32.2.1,(x32.2.2.1,(x32.2.2.2.1,(x32.2.2.2.2.1,(a9,(x32.2.2.2.2.2.2.1,(x32.2.2.2.2.2.2.2.1,(x32.2.2.2.2.2.2.2.2.1,x32.2.2.2.2.2.2.2.2.2))))))))))[(Int.toNat x13)]? fun x33 =>
         bif (decide ((List.length x31)≤(List.length (List.set (List.set x31 (Int.toNat x13) (x32.1,(x32.2.1,(x32.2.2.1,(x32.2.2.2.1,(x32.2.2.2.2.1,(a9,(x32.2.2.2.2.2.2.1,(x32.2.2.2.2.2.2.2.1,(x32.2.2.2.2.2.2.2.2.1,x32.2.2.2.2.2.2.2.2.2)))))))))) (Int.toNat x13) (x33.1,(x33.2.1,(x33.2.2.1,(x33.2.2.2.1,(a9,(x33.2.2.2.2.2.1,(x33.2.2.2.2.2.2.1,(x33.2.2.2.2.2.2.2.1,(x33.2.2.2.2.2.2.2.2.1,x33.2.2.2.2.2.2.2.2.2))))))))))))) then
          some ((x27,(x28,(x29,((List.take (List.length x31) (List.set (List.set x31 (Int.toNat x13) (x32.1,(x32.2.1,(x32.2.2.1,(x32.2.2.2.1,(x32.2.2.2.2.1,(a9,(x32.2.2.2.2.2.2.1,(x32.2.2.2.2.2.2.2.1,(x32.2.2.2.2.2.2.2.2.1,x32.2.2.2.2.2.2.2.2.2)))))))))) (Int.toNat x13) (x33.1,(x33.2.1,(x33.2.2.1,(x33.2.2.2.1,(a9,(x33.2.2.2.2.2.1,(x33.2.2.2.2.2.2.1,(x33.2.2.2.2.2.2.2.1,(x33.2.2.2.2.2.2.2.2.1,x33.2.2.2.2.2.2.2.2.2))))))))))),(g.2.2.2.2.1,a9))))),(0:Int))
         else none
        else none
       else
        bif (decide ((List.length x31)≤(List.length (List.set x31 (Int.toNat x13) (x32.1,(x32.2.1,(x32.2.2.1,(x32.2.2.2.1,(x32.2.2.2.2.1,(a9,(x32.2.2.2.2.2.2.1,(x32.2.2.2.2.2.2.2.1,(x32.2.2.2.2.2.2.2.2.1,x32.2.2.2.2.2.2.2.2.2))))))))))))) then
         some ((x27,(x28,(x29,((List.take (List.length x31) (List.set x31 (Int.toNat x13) (x32.1,(x32.2.1,(x32.2.2.1,(x32.2.2.2.1,(x32.2.2.2.2.1,(a9,(x32.2.2.2.2.2.2.1,(x32.2.2.2.2.2.2.2.1,(x32.2.2.2.2.2.2.2.2.1,x32.2.2.2.2.2.2.2.2.2))))))))))),(g.2.2.2.2.1,a9))))),(0:Int))
        else none
      else none:=rfl
theorem fin_eq (g:LG) (a7:List Ra) (a8 a9 a10:Int):billing_finish (g,((a7,a8),(a9,a10))) =
 bif (decide (((0:Int)≤a9)∧(a9<(((List.length g.2.2.2.1):Nat):Int)))) then
  bindO g.2.2.2.1[(Int.toNat a9)]? fun x11 =>
  bindO (cloneG g.2.2.2.1) fun x12 =>
  bif (decide ((List.length x12)=(List.length x12))) then
   bindO (delG (x12,(a9,(Go.IntKind.wrap .i64 (a9+(1:Int)))))) fun x14 =>
   joinO (bif (decide (x11.2.2.2.2.1≠(-1:Int))) then
 bif (decide (g.2.2.2.2.1≥(1048576:Int))) then
 outO (some ((([]:List Int),((0:Int),((0:Int),(([]:List BL),((0:Int),(0:Int)))))),(10:Int)))
 else
 bindO (some (Go.IntKind.wrap .i64 (g.2.2.2.2.1+(1:Int)))) fun x15 =>
 bindO (rating_Seconds (x11.2.2.2.2.1,a10)) fun x16 =>
 bindO (rating_Cost ((a7,a8),(x11.2.2.1,(x11.2.2.2.2.1,a10)))) fun (x18,x19) =>
 bif (decide (x19=(0:Int))) then
 bif (decide ((List.length x14)≤(List.length x14))) then
 bif (decide (((List.length ((List.take (List.length x14) x14)++((x11.1,(x11.2.1,(x11.2.2.1,(x11.2.2.2.1,(x11.2.2.2.2.1,(a10,(x15,(x16,(x18,x11.2.2.2.2.2.2.2.2.2)))))))))::([]:List BL))))*104)≤140737488355328)) then
 bindO (some ((List.take (List.length x14) x14)++((x11.1,(x11.2.1,(x11.2.2.1,(x11.2.2.2.1,(x11.2.2.2.2.1,(a10,(x15,(x16,(x18,x11.2.2.2.2.2.2.2.2.2)))))))))::([]:List BL)))) fun x20 =>
 bif (decide ((List.length x20)≤(List.length x20))) then
 some (Sum.inl ((List.take (List.length x20) x20),((x11.1,(x11.2.1,(x11.2.2.1,(x11.2.2.2.1,(x11.2.2.2.2.1,(a10,(x15,(x16,(x18,x11.2.2.2.2.2.2.2.2.2))))))))),(g.1,(g.2.1,(g.2.2.1,(g.2.2.2.1,(x15,g.2.2.2.2.2))))))))
 else none
 else none
 else none
 else
 bif (decide ((List.length x14)≤(List.length x14))) then
 bif (decide (((List.length ((List.take (List.length x14) x14)++((x11.1,(x11.2.1,(x11.2.2.1,(x11.2.2.2.1,(x11.2.2.2.2.1,(a10,(x15,(x16,(x11.2.2.2.2.2.2.2.2.1,x11.2.2.2.2.2.2.2.2.2)))))))))::([]:List BL))))*104)≤140737488355328)) then
 bindO (some ((List.take (List.length x14) x14)++((x11.1,(x11.2.1,(x11.2.2.1,(x11.2.2.2.1,(x11.2.2.2.2.1,(a10,(x15,(x16,(x11.2.2.2.2.2.2.2.2.1,x11.2.2.2.2.2.2.2.2.2)))))))))::([]:List BL)))) fun x21 =>
 bif (decide ((List.length x21)≤(List.length x21))) then
 some (Sum.inl ((List.take (List.length x21) x21),((x11.1,(x11.2.1,(x11.2.2.1,(x11.2.2.2.1,(x11.2.2.2.2.1,(a10,(x15,(x16,(x11.2.2.2.2.2.2.2.2.1,x11.2.2.2.2.2.2.2.2.2))))))))),(g.1,(g.2.1,(g.2.2.1,(g.2.2.2.1,(x15,g.2.2.2.2.2))))))))
 else none
 else none
 else none
 else
 bif (decide ((List.length x14)≤(List.length x14))) then
 some (Sum.inl ((List.take (List.length x14) x14),((x11.1,(x11.2.1,(x11.2.2.1,(x11.2.2.2.1,(x11.2.2.2.2.1,(a10,(x11.2.2.2.2.2.2.1,(x11.2.2.2.2.2.2.2.1,(x11.2.2.2.2.2.2.2.2.1,x11.2.2.2.2.2.2.2.2.2))))))))),g)))
 else none) fun (v22,((v23,(v24,(v25,(v26,(v27,(v28,(v29,(v30,(v31,v32))))))))),(v33,(v34,(v35,(v36,(v37,v38))))))) =>
   bindO (billing_data ((a10::(v29::(v30::(v31::([]:List Int))))),(v23::([]:List (List UInt8))))) fun x39 =>
   bindO (billing_write ((v33,(v34,v35)),((4:Int),x39))) fun ((x41,(x42,x43)),x44) =>
   bif (decide (x44≠(0:Int))) then
    some ((([]:List Int),((0:Int),((0:Int),(([]:List BL),((0:Int),(0:Int)))))),x44)
   else
    bif (decide ((List.length v22)≤(List.length v22))) then
     some ((x41,(x42,(x43,((List.take (List.length v22) v22),(v37,v38))))),(0:Int))
    else none
  else none
 else none:=rfl
theorem en_eq (g:LG) (a7:List Ra) (a8:Int) (a9:Tx) (a10:Int):billing_End (g,((a7,a8),(a9,a10))) =
 joinO (bindO (billing_Valid g) fun x11 =>
 bif (!x11) then
 outO (some ((([]:List Int),((0:Int),((0:Int),(([]:List BL),((0:Int),(0:Int)))))),(2:Int)))
 else
 bindO (billing_within (a10,(g.2.2.2.2.2,(1099511627776:Int)))) fun x12 =>
 bif (!x12) then
 outO (some ((([]:List Int),((0:Int),((0:Int),(([]:List BL),((0:Int),(0:Int)))))),(2:Int)))
 else
 bindO (rating_Valid (a7,a8)) fun x13 =>
 bif (!x13) then
 outO (some ((([]:List Int),((0:Int),((0:Int),(([]:List BL),((0:Int),(0:Int)))))),(2:Int)))
 else
 some (Sum.inl ())) fun _ =>
 bindO (billing_find (g,a9)) fun (x15,x16) =>
 bif (!x16) then
  some ((([]:List Int),((0:Int),((0:Int),(([]:List BL),((0:Int),(0:Int)))))),(8:Int))
 else
  bindO (billing_finish (g,((a7,a8),(x15,a10)))) fun ((x18,(x19,(x20,(x21,(x22,x23))))),x24) =>
  bif (decide (x24≠(0:Int))) then
   some ((([]:List Int),((0:Int),((0:Int),(([]:List BL),((0:Int),(0:Int)))))),x24)
  else
   some ((x18,(x19,(x20,(x21,(x22,a10))))),(0:Int)):=rfl
theorem sy_eq (g:LG):billing_Sync g =
 bindO (billing_Valid g) fun x7 =>
 bif (!x7) then
  some (([]:List Int),((0:Int),((0:Int),(([]:List BL),((0:Int),(0:Int))))))
 else
  bindO (journal_Sync (g.1,(g.2.1,g.2.2.1))) fun (x9,(x10,x11)) =>
  bindO (cloneG g.2.2.2.1) fun x12 =>
  bif (decide ((List.length x12)≤(List.length x12))) then
   some (x9,(x10,(x11,((List.take (List.length x12) x12),(g.2.2.2.2.1,g.2.2.2.2.2)))))
  else none:=rfl
theorem ti_eq (g:LG) (a7:Int):dialtoneref38_timed (g,a7) =
 bindO (dialtoneref38_Valid g) fun x8 =>
 bif x8 then
  bif (decide (a7≥g.2.2.2.2.2)) then
   some (decide (a7≤(1099511627776:Int)))
  else
   some Bool.false
 else
  some Bool.false:=rfl
theorem fu_eq (g:LG):dialtoneref38_full g =
 some (decide (g.2.2.1≥(1048576:Int))):=rfl
theorem wo_eq (g:LG) (a:AC):dialtoneref38_effect (g,a) =
 bif (decide (a.1=(5:Int))) then
  bindO (dialtoneref38_record (g,a.2.2.1)) fun x15 =>
  bif (decide (x15<(0:Int))) then
   some (g,Bool.false)
  else
   bif (decide (((0:Int)≤x15)∧(x15<(((List.length g.2.2.2.1):Nat):Int)))) then
    bindO g.2.2.2.1[(Int.toNat x15)]? fun x16 =>
    bif x16.2.2.2.2.2.2.2.2.2 then
     some (g,Bool.false)
    else
     bif (decide (((List.length g.2.2.2.1)*104)≤140737488355328)) then
      bif (decide (((0:Int)≤x15)∧(x15<(((List.length g.2.2.2.1):Nat):Int)))) then
       bindO g.2.2.2.1[(Int.toNat x15)]? fun x18 =>
       bif (decide ((List.length g.2.2.2.1)≤(List.length (List.set g.2.2.2.1 (Int.toNat x15) (x18.1,(x18.2.1,(x18.2.2.1,(x18.2.2.2.1,(x18.2.2.2.2.1,(x18.2.2.2.2.2.1,(x18.2.2.2.2.2.2.1,(x18.2.2.2.2.2.2.2.1,(x18.2.2.2.2.2.2.2.2.1,Bool.true))))))))))))) then
        some ((g.1,(g.2.1,(g.2.2.1,((List.take (List.length g.2.2.2.1) (List.set g.2.2.2.1 (Int.toNat x15) (x18.1,(x18.2.1,(x18.2.2.1,(x18.2.2.2.1,(x18.2.2.2.2.1,(x18.2.2.2.2.2.1,(x18.2.2.2.2.2.2.1,(x18.2.2.2.2.2.2.2.1,(x18.2.2.2.2.2.2.2.2.1,Bool.true))))))))))),(g.2.2.2.2.1,g.2.2.2.2.2))))),Bool.true)
       else none
      else none
     else none
   else none
 else
  bindO (dialtoneref38_find ((g.1,(g.2.1,(g.2.2.1,(g.2.2.2.1,(g.2.2.2.2.1,(maxA g.2.2.2.2.2 a.2.1)))))),a.2.2.2.2.2.1)) fun x19 =>
  bif (decide (a.1=(1:Int))) then
   joinO (bif (decide (x19≥(0:Int))) then
 outO (some ((g.1,(g.2.1,(g.2.2.1,(g.2.2.2.1,(g.2.2.2.2.1,(maxA g.2.2.2.2.2 a.2.1)))))),Bool.false))
 else
 bindO (dialtoneref38_Open (g.1,(g.2.1,(g.2.2.1,(g.2.2.2.1,(g.2.2.2.2.1,(maxA g.2.2.2.2.2 a.2.1))))))) fun x20 =>
 bif (decide (x20≥(256:Int))) then
 outO (some ((g.1,(g.2.1,(g.2.2.1,(g.2.2.2.1,(g.2.2.2.2.1,(maxA g.2.2.2.2.2 a.2.1)))))),Bool.false))
 else
 bif (decide (a.2.2.2.2.2.1=([]:List UInt8))) then
 outO (some ((g.1,(g.2.1,(g.2.2.1,(g.2.2.2.1,(g.2.2.2.2.1,(maxA g.2.2.2.2.2 a.2.1)))))),Bool.false))
 else
 bif (decide ((((List.length a.2.2.2.2.2.1):Nat):Int) > (200:Int))) then
 outO (some ((g.1,(g.2.1,(g.2.2.1,(g.2.2.2.1,(g.2.2.2.2.1,(maxA g.2.2.2.2.2 a.2.1)))))),Bool.false))
 else
 bif (decide ((((List.length a.2.2.2.2.2.2.1):Nat):Int) > (200:Int))) then
 outO (some ((g.1,(g.2.1,(g.2.2.1,(g.2.2.2.1,(g.2.2.2.2.1,(maxA g.2.2.2.2.2 a.2.1)))))),Bool.false))
 else
 bif (decide ((((List.length a.2.2.2.2.2.2.2):Nat):Int) > (200:Int))) then
 outO (some ((g.1,(g.2.1,(g.2.2.1,(g.2.2.2.1,(g.2.2.2.2.1,(maxA g.2.2.2.2.2 a.2.1)))))),Bool.false))
 else
 some (Sum.inl ())) fun _ =>
   bindO (dialtoneref38_with (g.2.2.2.1,(a.2.2.2.2.2.1,(a.2.2.2.2.2.2.1,(a.2.2.2.2.2.2.2,(a.2.1,((-1:Int),(a.2.1,((0:Int),((0:Int),((0:Int),Bool.false))))))))))) fun x21 =>
   some ((g.1,(g.2.1,(g.2.2.1,(x21,(g.2.2.2.2.1,(maxA g.2.2.2.2.2 a.2.1)))))),Bool.true)
  else
   joinO (bif (decide (x19<(0:Int))) then
 outO (some ((g.1,(g.2.1,(g.2.2.1,(g.2.2.2.1,(g.2.2.2.2.1,(maxA g.2.2.2.2.2 a.2.1)))))),Bool.false))
 else
 bif (decide (((0:Int)≤x19)∧(x19<(((List.length g.2.2.2.1):Nat):Int)))) then
 bindO g.2.2.2.1[(Int.toNat x19)]? fun x22 =>
 bif (decide (a.2.1<x22.2.2.2.2.2.1)) then
 outO (some ((g.1,(g.2.1,(g.2.2.1,(g.2.2.2.1,(g.2.2.2.2.1,(maxA g.2.2.2.2.2 a.2.1)))))),Bool.false))
 else
 bif (decide (a.1=(2:Int))) then
 bif (decide (((0:Int)≤x19)∧(x19<(((List.length g.2.2.2.1):Nat):Int)))) then
 bindO g.2.2.2.1[(Int.toNat x19)]? fun x23 =>
 bif (decide (x23.2.2.2.2.1≥(0:Int))) then
 outO (some ((g.1,(g.2.1,(g.2.2.1,(g.2.2.2.1,(g.2.2.2.2.1,(maxA g.2.2.2.2.2 a.2.1)))))),Bool.false))
 else
 some (Sum.inl ())
 else none
 else
 some (Sum.inl ())
 else none) fun _ =>
   bif (decide (((0:Int)≤x19)∧(x19<(((List.length g.2.2.2.1):Nat):Int)))) then
    bindO g.2.2.2.1[(Int.toNat x19)]? fun x24 =>
    bif (decide (((0:Int)≤x19)∧(x19≤(((List.length g.2.2.2.1):Nat):Int)))) then
     bindO (some (List.take (Int.toNat x19) g.2.2.2.1)) fun x25 =>
     bif (decide (((List.length x25)*104)≤140737488355328)) then
      bindO (some (Go.IntKind.wrap .i64 (x19+(1:Int)))) fun x27 =>
      bif (decide (((0:Int)≤x27)∧(x27≤(((List.length g.2.2.2.1):Nat):Int)))) then
       bindO (some (List.drop (Int.toNat x27) g.2.2.2.1)) fun x28 =>
       bif (decide ((List.length x25)≤(List.length x25))) then
        bif (decide (((List.length ((List.take (List.length x25) x25)++x28))*104)≤140737488355328)) then
         bindO (some ((List.take (List.length x25) x25)++x28)) fun x29 =>
         joinO (bif (decide (a.1=(2:Int))) then
 some (Sum.inl (x24.1,(x24.2.1,(x24.2.2.1,(x24.2.2.2.1,(a.2.1,(a.2.1,(x24.2.2.2.2.2.2.1,(x24.2.2.2.2.2.2.2.1,(x24.2.2.2.2.2.2.2.2.1,x24.2.2.2.2.2.2.2.2.2))))))))))
 else
 some (Sum.inl (x24.1,(x24.2.1,(x24.2.2.1,(x24.2.2.2.1,(x24.2.2.2.2.1,(a.2.1,(x24.2.2.2.2.2.2.1,(x24.2.2.2.2.2.2.2.1,(x24.2.2.2.2.2.2.2.2.1,x24.2.2.2.2.2.2.2.2.2))))))))))) fun (v30,(v31,(v32,(v33,(v34,(v35,(v36,(v37,(v38,v39))))))))) =>
         bif (decide (a.1<(4:Int))) then
          bif (decide ((List.length x29)≤(List.length x29))) then
           bindO (dialtoneref38_with ((List.take (List.length x29) x29),(v30,(v31,(v32,(v33,(v34,(v35,(v36,(v37,(v38,v39))))))))))) fun x40 =>
           some ((g.1,(g.2.1,(g.2.2.1,(x40,(g.2.2.2.2.1,(maxA g.2.2.2.2.2 a.2.1)))))),Bool.true)
          else none
         else
          bif (decide (a.2.2.1=(0:Int))) then
           bif (decide ((List.length x29)≤(List.length x29))) then
            some ((g.1,(g.2.1,(g.2.2.1,((List.take (List.length x29) x29),(g.2.2.2.2.1,(maxA g.2.2.2.2.2 a.2.1)))))),(decide (v34=(-1:Int))))
           else none
          else
           joinO (bif (decide (v34=(-1:Int))) then
 outO (some ((g.1,(g.2.1,(g.2.2.1,(g.2.2.2.1,(g.2.2.2.2.1,(maxA g.2.2.2.2.2 a.2.1)))))),Bool.false))
 else
 bif (decide (a.2.2.1≠(Go.IntKind.wrap .i64 (g.2.2.2.2.1+(1:Int))))) then
 outO (some ((g.1,(g.2.1,(g.2.2.1,(g.2.2.2.1,(g.2.2.2.2.1,(maxA g.2.2.2.2.2 a.2.1)))))),Bool.false))
 else
 bif (decide (a.2.2.1 > (1048576:Int))) then
 outO (some ((g.1,(g.2.1,(g.2.2.1,(g.2.2.2.1,(g.2.2.2.2.1,(maxA g.2.2.2.2.2 a.2.1)))))),Bool.false))
 else
 bindO (dialtoneref37_Seconds (v34,v35)) fun x42 =>
 bif (decide (a.2.2.2.1≠x42)) then
 outO (some ((g.1,(g.2.1,(g.2.2.1,(g.2.2.2.1,(g.2.2.2.2.1,(maxA g.2.2.2.2.2 a.2.1)))))),Bool.false))
 else
 some (Sum.inl ())) fun _ =>
           bif (decide ((List.length x29)≤(List.length x29))) then
            bif (decide (((List.length ((List.take (List.length x29) x29)++((v30,(v31,(v32,(v33,(v34,(v35,(a.2.2.1,(a.2.2.2.1,(a.2.2.2.2.1,v39)))))))))::([]:List BL))))*104)≤140737488355328)) then
             bindO (some ((List.take (List.length x29) x29)++((v30,(v31,(v32,(v33,(v34,(v35,(a.2.2.1,(a.2.2.2.1,(a.2.2.2.2.1,v39)))))))))::([]:List BL)))) fun x43 =>
             bif (decide ((List.length x43)≤(List.length x43))) then
              some ((g.1,(g.2.1,(g.2.2.1,((List.take (List.length x43) x43),(a.2.2.1,(maxA g.2.2.2.2.2 a.2.1)))))),Bool.true)
             else none
            else none
           else none
        else none
       else none
      else none
     else none
    else none
   else none:=rfl
theorem dn_eq (g:LG) (a:AC):dialtoneref38_done (g,a) =
 bindO (dialtoneref38_effect (g,a)) fun ((x16,(x17,(x18,(x19,(x20,x21))))),x22) =>
 bindO (actRecord a) fun (x24,x25) =>
 bindO (dialtoneref20_Append ((g.1,(g.2.1,g.2.2.1)),(x24,x25))) fun ((x27,(x28,x29)),x30) =>
 some (x27,(x28,(x29,(x19,(x20,x21))))):=rfl
theorem edR_eq (g:LG) (a7:List Ra) (a8 a9 a10:Int):dialtoneref38_ended (g,((a7,a8),(a9,a10))) =
 bif (decide (((0:Int)≤a9)∧(a9<(((List.length g.2.2.2.1):Nat):Int)))) then
  bindO g.2.2.2.1[(Int.toNat a9)]? fun x11 =>
  joinO (bif (decide (x11.2.2.2.2.1≥(0:Int))) then
 bindO (some (Go.IntKind.wrap .i64 (g.2.2.2.2.1+(1:Int)))) fun x12 =>
 bindO (dialtoneref37_Seconds (x11.2.2.2.2.1,a10)) fun x13 =>
 bindO (dialtoneref37_Cost ((a7,a8),(x11.2.2.1,(x11.2.2.2.2.1,a10)))) fun (x15,x16) =>
 bif (decide (x16=(0:Int))) then
 some (Sum.inl ((4:Int),(a10,(x12,(x13,(x15,(x11.1,(([]:List UInt8),([]:List UInt8)))))))))
 else
 some (Sum.inl ((4:Int),(a10,(x12,(x13,((0:Int),(x11.1,(([]:List UInt8),([]:List UInt8)))))))))
 else
 some (Sum.inl ((4:Int),(a10,((0:Int),((0:Int),((0:Int),(x11.1,(([]:List UInt8),([]:List UInt8)))))))))) fun (v17,(v18,(v19,(v20,(v21,(v22,(v23,v24))))))) =>
  bindO (dialtoneref38_full g) fun x25 =>
  bif x25 then
   some ((([]:List Int),((0:Int),((0:Int),(([]:List BL),((0:Int),(0:Int)))))),(10:Int))
  else
   bif (decide (v19 > (1048576:Int))) then
    some ((([]:List Int),((0:Int),((0:Int),(([]:List BL),((0:Int),(0:Int)))))),(10:Int))
   else
    bindO (dialtoneref38_done (g,(v17,(v18,(v19,(v20,(v21,(v22,(v23,v24))))))))) fun (x27,(x28,(x29,(x30,(x31,x32))))) =>
    some ((x27,(x28,(x29,(x30,(x31,x32))))),(0:Int))
 else none:=rfl
theorem enR_eq (g:LG) (a7:List Ra) (a8:Int) (a9:Tx) (a10:Int):dialtoneref38_End (g,((a7,a8),(a9,a10))) =
 bindO (dialtoneref38_timed (g,a10)) fun x11 =>
 bif (!x11) then
  some ((([]:List Int),((0:Int),((0:Int),(([]:List BL),((0:Int),(0:Int)))))),(2:Int))
 else
  bindO (dialtoneref37_Valid (a7,a8)) fun x12 =>
  bif (!x12) then
   some ((([]:List Int),((0:Int),((0:Int),(([]:List BL),((0:Int),(0:Int)))))),(2:Int))
  else
   bindO (dialtoneref38_find (g,a9)) fun x13 =>
   bif (decide (x13<(0:Int))) then
    some ((([]:List Int),((0:Int),((0:Int),(([]:List BL),((0:Int),(0:Int)))))),(8:Int))
   else
    bindO (dialtoneref38_ended (g,((a7,a8),(x13,a10)))) fun ((x15,(x16,(x17,(x18,(x19,x20))))),x21) =>
    some ((x15,(x16,(x17,(x18,(x19,x20))))),x21):=rfl
theorem gvR_eq (g:LG) (a7:Int):dialtoneref38_Given (g,a7) =
 bindO (dialtoneref38_Valid g) fun x8 =>
 bif (!x8) then
  some ((([]:List Int),((0:Int),((0:Int),(([]:List BL),((0:Int),(0:Int)))))),(2:Int))
 else
  bindO (dialtoneref38_record (g,a7)) fun x9 =>
  bif (decide (x9<(0:Int))) then
   some ((([]:List Int),((0:Int),((0:Int),(([]:List BL),((0:Int),(0:Int)))))),(8:Int))
  else
   bif (decide (((0:Int)≤x9)∧(x9<(((List.length g.2.2.2.1):Nat):Int)))) then
    bindO g.2.2.2.1[(Int.toNat x9)]? fun x10 =>
    bif x10.2.2.2.2.2.2.2.2.2 then
     some ((([]:List Int),((0:Int),((0:Int),(([]:List BL),((0:Int),(0:Int)))))),(9:Int))
    else
     bindO (dialtoneref38_full g) fun x11 =>
     bif x11 then
      some ((([]:List Int),((0:Int),((0:Int),(([]:List BL),((0:Int),(0:Int)))))),(10:Int))
     else
      bindO (dialtoneref38_done (g,((5:Int),((0:Int),(a7,((0:Int),((0:Int),(([]:List UInt8),(([]:List UInt8),([]:List UInt8)))))))))) fun (x13,(x14,(x15,(x16,(x17,x18))))) =>
      some ((x13,(x14,(x15,(x16,(x17,x18))))),(0:Int))
   else none:=rfl
theorem syR_eq (g:LG):dialtoneref38_Sync g =
 bindO (dialtoneref38_Valid g) fun x7 =>
 bif (!x7) then
  some (([]:List Int),((0:Int),((0:Int),(([]:List BL),((0:Int),(0:Int))))))
 else
  bindO (dialtoneref20_Sync (g.1,(g.2.1,g.2.2.1))) fun (x9,(x10,x11)) =>
  some (x9,(x10,(x11,(g.2.2.2.1,(g.2.2.2.2.1,g.2.2.2.2.2))))):=rfl
theorem sm_eq (g h:LG):dialtoneref38_Same (g,h) =
 bindO (dialtoneref20_SameLog ((g.1,(g.2.1,g.2.2.1)),(h.1,(h.2.1,h.2.2.1)))) fun x13 =>
 bif x13 then
  bindO (dialtoneref38_SameBills (g.2.2.2.1,h.2.2.2.1)) fun x14 =>
  bif x14 then
   bif (decide (g.2.2.2.2.1=h.2.2.2.2.1)) then
    some (decide (g.2.2.2.2.2=h.2.2.2.2.2))
   else
    some Bool.false
  else
   some Bool.false
 else
  some Bool.false:=rfl
theorem ar_eq (a:AC):actRecord a =
 bif (decide (a.1=(1:Int))) then
  bindO (dialtoneref38_data ((a.2.1::([]:List Int)),(a.2.2.2.2.2.1::(a.2.2.2.2.2.2.1::(a.2.2.2.2.2.2.2::([]:List (List UInt8))))))) fun x9 =>
  some ((1:Int),x9)
 else
  bif (decide (a.1=(4:Int))) then
   bindO (dialtoneref38_data ((a.2.1::(a.2.2.1::(a.2.2.2.1::(a.2.2.2.2.1::([]:List Int))))),(a.2.2.2.2.2.1::([]:List (List UInt8))))) fun x10 =>
   some ((4:Int),x10)
  else
   bif (decide (a.1=(5:Int))) then
    bindO (dialtoneref38_data ((a.2.2.1::([]:List Int)),([]:List (List UInt8)))) fun x11 =>
    some ((5:Int),x11)
   else
    bindO (dialtoneref38_data ((a.2.1::([]:List Int)),(a.2.2.2.2.2.1::([]:List (List UInt8))))) fun x12 =>
    some (a.1,x12):=rfl
noncomputable def tf (p:Prop):Bool:=@decide p (Classical.propDecidable p)
theorem tf_t {p:Prop} (h:p):tf p=true:=by unfold tf;exact @decide_eq_true p (Classical.propDecidable p) h
theorem tf_f {p:Prop} (h:¬p):tf p=false:=by unfold tf;exact @decide_eq_false p (Classical.propDecidable p) h
theorem Is.tf {o:Option Bool} {P:Prop} (h:Is o P):o=Option.some (Go.Proofs.Ytkpijdndakljjaa.tf P):=by
 rcases h with ⟨h,e⟩ | ⟨h,e⟩
 ·rw [e,tf_t h]
 ·rw [e,tf_f h]
theorem Is.b {o:Option Bool} {P:Prop} (h:Is o P) {β:Type} (f:Bool→Option β):bindO o f=f (Go.Proofs.Ytkpijdndakljjaa.tf P):=by rw [h.tf];rfl
theorem Is.ite' {c:Prop} [Decidable c] {a b:Option Bool} {P:Prop} (h1:c→Is a P) (h2:¬c→Is b P):Is (if c then a else b) P:=by
 by_cases h:c
 ·rw [if_pos h];exact h1 h
 ·rw [if_neg h];exact h2 h
def opn:List BL→Nat
 | []=>0
 | b::l=>if b.2.2.2.2.2.2.1=0 then opn l+1 else 0
theorem opn_le:∀l:List BL,opn l≤l.length
 | []=>Nat.le_refl _
 | b::l=>by
   have:=opn_le l
   rw [opn,List.length_cons]
   split<;>omega
theorem opn_in:∀ {l:List BL} {i:Nat},i<opn l→(l.getD i b0).2.2.2.2.2.2.1=0
 | [],i,h=>by simp [opn] at h
 | b::l,i,h=>by
   rw [opn] at h
   split at h
   ·rename_i hb
    cases i with
    | zero=>exact hb
    | succ i =>
      rw [List.getD_cons_succ]
      exact opn_in (by omega)
   ·omega
theorem opn_at:∀ {l:List BL},opn l<l.length→(l.getD (opn l) b0).2.2.2.2.2.2.1≠0
 | [],h=>by simp [opn] at h
 | b::l,h=>by
   rw [opn] at h ⊢
   split at h
   ·rename_i hb
    rw [if_pos hb,List.getD_cons_succ]
    exact opn_at (by simpa using h)
   ·rename_i hb
    rw [if_neg hb]
    exact hb
theorem oc_loop {δ:Type} (l:List BL) (hl:l.length≤1000000):loopO (ocB (δ:=δ) l) (0:Int)=some (.inl ((opn l:Nat):Int)):=by
 have h1:=opn_le l
 refine loopO_from (fun i=>((i:Nat):Int)) (opn l) rfl (fun i hi => ?_) ?_
 ·have hz:=opn_in hi
  obtain ⟨x,hx,hxb⟩:=get_at b0 (show i<l.length by omega)
  rw [hx] at hz
  unfold ocB
  simp (disch:=(first | omega | (simp only [LNl];omega))) only [↓SDl,SDr,if_pos,↓hxb,hz,wrap_i64']
  rfl
 ·unfold ocB
  by_cases h2:opn l<l.length
  ·have hz:=opn_at h2
   obtain ⟨x,hx,hxb⟩:=get_at b0 h2
   rw [hx] at hz
   simp (disch:=(first | omega | (simp only [LNl];omega))) only [↓SDl,SDr,if_pos,if_neg,↓hxb,hz]
  ·simp (disch:=(first | omega | (simp only [LNl];omega))) only [↓SDl,SDr,if_neg]
theorem oc_j (l:List BL) (hl:l.length≤1000000):billing_openCount l=some ((opn l:Nat):Int):=by rw [oc_eq,oc_loop l hl];rfl
theorem or_j (g:LG) (hl:g.2.2.2.1.length≤1000000):dialtoneref38_Open g=some ((opn g.2.2.2.1:Nat):Int):=by rw [or_eq,oc_loop _ hl];rfl
theorem oc_b {β:Type} (l:List BL) (hl:l.length≤1000000) (f:Int→Option β):bindO (billing_openCount l) f=f ((opn l:Nat):Int):=by rw [oc_j l hl];rfl
theorem or_b {β:Type} (g:LG) (hl:g.2.2.2.1.length≤1000000) (f:Int→Option β):bindO (dialtoneref38_Open g) f=f ((opn g.2.2.2.1:Nat):Int):=by rw [or_j g hl];rfl
theorem wit_b {β:Type} (a b c:Int) (f:Bool→Option β):bindO (billing_within (a,(b,c))) f=f (decide (b≤a∧a≤c)):=by
 unfold billing_within
 by_cases h:b≤a
 ·simp only [cond_ite]
  rw [if_pos h,bindO_some]
  congr 1
  rw [decide_eq_decide];omega
 ·simp only [cond_ite]
  rw [if_neg h,bindO_some]
  congr 1
  rw [eq_comm,decide_eq_false_iff_not];omega
def BK (n:Int) (b:BL):Prop :=
 (1≤b.1.length∧b.1.length≤200∧b.2.1.length≤200∧b.2.2.1.length≤200)∧(0≤b.2.2.2.1∧b.2.2.2.1≤n)∧(b.2.2.2.2.1 = -1∨(b.2.2.2.1≤b.2.2.2.2.1∧b.2.2.2.2.1≤b.2.2.2.2.2.1))∧(b.2.2.2.1≤b.2.2.2.2.2.1∧b.2.2.2.2.2.1≤n) ∧
 ((b.2.2.2.2.2.2.1=0∧b.2.2.2.2.2.2.2.1=0∧b.2.2.2.2.2.2.2.2.1=0∧b.2.2.2.2.2.2.2.2.2=false)∨(b.2.2.2.2.2.2.1≠0∧b.2.2.2.2.1 ≠ -1∧0≤b.2.2.2.2.2.2.2.2.1∧b.2.2.2.2.2.2.2.1=Rt.SE b.2.2.2.2.1 b.2.2.2.2.2.1))
theorem sec_b {β:Type} (a b:Int) (f:Int→Option β):bindO (rating_Seconds (a,b)) f=f (Rt.SE a b):=by rw [Rt.secondsP_j];rfl
theorem secR_b {β:Type} (a b:Int) (f:Int→Option β):bindO (dialtoneref37_Seconds (a,b)) f=f (Rt.SE a b):=by rw [Rt.secondsR_j];rfl
set_option maxHeartbeats 4000000 in
theorem vb_j (n:Int) (b:BL):Is (billing_validBill (b,n)) (BK n b):=by
 obtain ⟨a1,a2,a3,a4,a5,a6,a7,a8,a9,a10⟩:=b
 unfold billing_validBill BK
 generalize hs:Rt.SE a5 a6=sv
 cases a10<;>simp only [↓SDl,SDr,wit_b,sec_b,hs,maxA,cond_ite,←decide_not,joinO_ite,outO_ite,bindO_ite,and_true,and_false,true_and,false_and,or_false,false_or,eq_self_iff_true,Bool.not_true,Bool.not_false,reduceCtorEq]<;>repeat' (refine Is.ite' (fun _ => ?_) (fun _ => ?_))
 all_goals first | exact Is.f (by omega) | exact Is.t (by omega) | exact Is.d (by omega)
set_option maxHeartbeats 4000000 in
theorem vbR_j (n:Int) (b:BL):Is (dialtoneref38_bill (b,n)) (BK n b):=by
 obtain ⟨a1,a2,a3,a4,a5,a6,a7,a8,a9,a10⟩:=b
 cases a1 with
 | nil =>
   show Is (some false) _
   exact Is.f (fun h=>by
    have:=h.1.1
    simp at this)
 | cons x a1 =>
 unfold dialtoneref38_bill BK
 generalize hs:Rt.SE a5 a6=sv
 have e0:decide (x::a1=([]:Tx))=false:=decide_eq_false (by simp)
 have hpos:1≤List.length (x::a1):=by simp
 dsimp only
 rw [e0,cond_false]
 clear e0
 generalize (x::a1:Tx)=a1 at *
 cases a10<;>simp only [↓SDl,SDr,secR_b,hs,cond_ite,←decide_not,joinO_ite,outO_ite,bindO_ite,and_true,and_false,true_and,false_and,or_false,false_or,eq_self_iff_true,Bool.not_true,Bool.not_false,reduceCtorEq]<;>repeat' (refine Is.ite' (fun _ => ?_) (fun _ => ?_))
 all_goals first | exact Is.f (by omega) | exact Is.t (by omega) | exact Is.d (by omega)
def pv (l:List BL) (i:Nat):Int:=if i≤opn l then 0 else (l.getD (i-1) b0).2.2.2.2.2.2.1
theorem pv_lo {l:List BL} {i:Nat} (h:i≤opn l):pv l i=0:=if_pos h
theorem pv_hi {l:List BL} {i:Nat} (h:opn l≤i):pv l (i+1)=(l.getD i b0).2.2.2.2.2.2.1:=by
 unfold pv
 rw [if_neg (by omega),Nat.add_sub_cancel]
def OKi (g:LG) (i:Nat):Prop:=BK g.2.2.2.2.2 (g.2.2.2.1.getD i b0)∧((i<opn g.2.2.2.1∧(0<i→Op.bytesLess (g.2.2.2.1.getD (i-1) b0).1 (g.2.2.2.1.getD i b0).1=true))∨(opn g.2.2.2.1≤i∧pv g.2.2.2.1 i+1≤(g.2.2.2.1.getD i b0).2.2.2.2.2.2.1∧(g.2.2.2.1.getD i b0).2.2.2.2.2.2.1≤g.2.2.2.2.1))
theorem pv_nn {g:LG} (h:0≤g.2.2.2.2.1∧g.2.2.2.2.1≤1048576):∀ {i:Nat},(∀j,j<i→OKi g j)→0≤pv g.2.2.2.1 i∧pv g.2.2.2.1 i≤1048576
 | 0,_=>by simp [pv]
 | i+1,hj=>by
   have ih:=pv_nn h (i:=i) (fun j hj'=>hj j (by omega))
   rcases (hj i (by omega)).2 with ⟨h1,_⟩ | ⟨h1,h2,h3⟩
   ·rw [pv_lo (by omega)];omega
   ·rw [pv_hi h1];omega
set_option maxHeartbeats 4000000 in
theorem va_loop (g:LG) (hl:g.2.2.2.1.length≤1000000) (h5:0≤g.2.2.2.2.1∧g.2.2.2.2.1≤1048576) :
 ((∀i,i<g.2.2.2.1.length→OKi g i)∧loopO (vaB g ((opn g.2.2.2.1:Nat):Int)) ((0:Int),(0:Int))=some (.inl ()))∨(¬(∀i,i<g.2.2.2.1.length→OKi g i)∧loopO (vaB g ((opn g.2.2.2.1:Nat):Int)) ((0:Int),(0:Int))=some (.inr false)):=by
 have ho:=opn_le g.2.2.2.1
 refine loop_allI (fun i=>(((i:Nat):Int),pv g.2.2.2.1 i)) _ (OKi g) _ _ (by simp [pv]) (fun i hi hj hok => ?_) (fun i hi hj hno => ?_) (fun _ => ?_)
 ·have hp:=pv_nn h5 hj
  obtain ⟨x,hx,hxb⟩:=get_at b0 hi
  obtain ⟨hb,hok⟩:=hok
  rw [hx] at hb hok
  unfold vaB
  rcases hok with ⟨h1,h2⟩ | ⟨h1,h2,h3⟩
  ·rw [pv_lo (by omega),pv_lo (show i+1≤_ by omega)]
   by_cases h0:0<i
   ·obtain ⟨y,hy,hyb⟩:=get_at b0 (show i-1<g.2.2.2.1.length by omega)
    have hbl:=h2 h0
    rw [hy] at hbl
    have hc:((i:Int)-1)=((i-1:Nat):Int):=by omega
    simp (disch:=(first | omega | (simp only [LNl];omega))) only [↓SDl,SDr,if_pos,if_neg,↓hxb,↓(vb_j g.2.2.2.2.2 x).b,tf_t hb,↓hyb,hc,hbl,wrap_i64',Bool.not_true]
    rfl
   ·simp (disch:=(first | omega | (simp only [LNl];omega))) only [↓SDl,SDr,if_pos,if_neg,↓hxb,↓(vb_j g.2.2.2.2.2 x).b,tf_t hb,wrap_i64',Bool.not_true]
    rfl
  ·rw [pv_hi h1,hx]
   simp (disch:=(first | omega | (simp only [LNl];omega))) only [↓SDl,SDr,if_pos,if_neg,↓hxb,↓(vb_j g.2.2.2.2.2 x).b,tf_t hb,↓wit_b,wrap_i64',Bool.not_true]
   rfl
 ·have hp:=pv_nn h5 hj
  obtain ⟨x,hx,hxb⟩:=get_at b0 hi
  unfold OKi at hno
  rw [hx] at hno
  unfold vaB
  by_cases hb:BK g.2.2.2.2.2 x
  ·by_cases h1:i<opn g.2.2.2.1
   ·by_cases h0:0<i
    ·obtain ⟨y,hy,hyb⟩:=get_at b0 (show i-1<g.2.2.2.1.length by omega)
     rw [hy] at hno
     have hc:((i:Int)-1)=((i-1:Nat):Int):=by omega
     cases hbl:Op.bytesLess y.1 x.1 with
     | true=>exact (hno ⟨hb,.inl ⟨h1,fun _=>hbl⟩⟩).elim
     | false=>simp (disch:=(first | omega | (simp only [LNl];omega))) only [↓SDl,SDr,if_pos,if_neg,↓hxb,↓(vb_j g.2.2.2.2.2 x).b,tf_t hb,↓hyb,hc,hbl,wrap_i64',Bool.not_true,Bool.not_false]
    ·exact (hno ⟨hb,.inl ⟨h1,fun h=>(h0 h).elim⟩⟩).elim
   ·simp (disch:=(first | omega | (simp only [LNl];omega))) only [↓SDl,SDr,if_pos,if_neg,↓hxb,↓(vb_j g.2.2.2.2.2 x).b,tf_t hb,↓wit_b,wrap_i64',Bool.not_true]
    have h4:¬(pv g.2.2.2.1 i+1≤x.2.2.2.2.2.2.1∧x.2.2.2.2.2.2.1≤g.2.2.2.2.1):=fun h=>hno ⟨hb,.inr ⟨by omega,h⟩⟩
    simp (disch:=(first | omega | (simp only [LNl];omega))) only [↓SDl,SDr,if_neg,h4]
  ·simp (disch:=(first | omega | (simp only [LNl];omega))) only [↓SDl,SDr,if_pos,↓hxb,↓(vb_j g.2.2.2.2.2 x).b,tf_f hb,Bool.not_false]
 ·unfold vaB
  simp (disch:=(first | omega | (simp only [LNl];omega))) only [↓SDl,SDr,if_neg]
set_option maxHeartbeats 4000000 in
theorem vr_loop (g:LG) (hl:g.2.2.2.1.length≤1000000) (h5:0≤g.2.2.2.2.1∧g.2.2.2.2.1≤1048576) :
 ((∀i,i<g.2.2.2.1.length→OKi g i)∧loopO (vrB g ((opn g.2.2.2.1:Nat):Int)) ((0:Int),(0:Int))=some (.inl ()))∨(¬(∀i,i<g.2.2.2.1.length→OKi g i)∧loopO (vrB g ((opn g.2.2.2.1:Nat):Int)) ((0:Int),(0:Int))=some (.inr false)):=by
 have ho:=opn_le g.2.2.2.1
 refine loop_allI (fun i=>(((i:Nat):Int),pv g.2.2.2.1 i)) _ (OKi g) _ _ (by simp [pv]) (fun i hi hj hok => ?_) (fun i hi hj hno => ?_) (fun _ => ?_)
 ·have hp:=pv_nn h5 hj
  obtain ⟨x,hx,hxb⟩:=get_at b0 hi
  obtain ⟨hb,hok⟩:=hok
  rw [hx] at hb hok
  unfold vrB
  rcases hok with ⟨h1,h2⟩ | ⟨h1,h2,h3⟩
  ·rw [pv_lo (by omega),pv_lo (show i+1≤_ by omega)]
   by_cases h0:0<i
   ·obtain ⟨y,hy,hyb⟩:=get_at b0 (show i-1<g.2.2.2.1.length by omega)
    have hbl:=h2 h0
    rw [hy] at hbl
    have hc:((i:Int)-1)=((i-1:Nat):Int):=by omega
    simp (disch:=(first | omega | (simp only [LNl];omega))) only [↓SDl,SDr,if_pos,if_neg,↓hxb,↓(vbR_j g.2.2.2.2.2 x).b,tf_t hb,↓hyb,hc,hbl,wrap_i64',Bool.not_true]
    rfl
   ·simp (disch:=(first | omega | (simp only [LNl];omega))) only [↓SDl,SDr,if_pos,if_neg,↓hxb,↓(vbR_j g.2.2.2.2.2 x).b,tf_t hb,wrap_i64',Bool.not_true]
    rfl
  ·rw [pv_hi h1,hx]
   simp (disch:=(first | omega | (simp only [LNl];omega))) only [↓SDl,SDr,if_pos,if_neg,↓hxb,↓(vbR_j g.2.2.2.2.2 x).b,tf_t hb,wrap_i64',Bool.not_true]
   rfl
 ·have hp:=pv_nn h5 hj
  obtain ⟨x,hx,hxb⟩:=get_at b0 hi
  unfold OKi at hno
  rw [hx] at hno
  unfold vrB
  by_cases hb:BK g.2.2.2.2.2 x
  ·by_cases h1:i<opn g.2.2.2.1
   ·by_cases h0:0<i
    ·obtain ⟨y,hy,hyb⟩:=get_at b0 (show i-1<g.2.2.2.1.length by omega)
     rw [hy] at hno
     have hc:((i:Int)-1)=((i-1:Nat):Int):=by omega
     cases hbl:Op.bytesLess y.1 x.1 with
     | true=>exact (hno ⟨hb,.inl ⟨h1,fun _=>hbl⟩⟩).elim
     | false=>simp (disch:=(first | omega | (simp only [LNl];omega))) only [↓SDl,SDr,if_pos,if_neg,↓hxb,↓(vbR_j g.2.2.2.2.2 x).b,tf_t hb,↓hyb,hc,hbl,wrap_i64',Bool.not_true,Bool.not_false]
    ·exact (hno ⟨hb,.inl ⟨h1,fun h=>(h0 h).elim⟩⟩).elim
   ·have h4:¬(pv g.2.2.2.1 i+1≤x.2.2.2.2.2.2.1∧x.2.2.2.2.2.2.1≤g.2.2.2.2.1):=fun h=>hno ⟨hb,.inr ⟨by omega,h⟩⟩
    by_cases h6:x.2.2.2.2.2.2.1≤pv g.2.2.2.1 i
    ·simp (disch:=(first | omega | (simp only [LNl];omega))) only [↓SDl,SDr,if_pos,if_neg,↓hxb,↓(vbR_j g.2.2.2.2.2 x).b,tf_t hb,wrap_i64',Bool.not_true]
    ·simp (disch:=(first | omega | (simp only [LNl];omega))) only [↓SDl,SDr,if_pos,if_neg,↓hxb,↓(vbR_j g.2.2.2.2.2 x).b,tf_t hb,wrap_i64',Bool.not_true]
  ·simp (disch:=(first | omega | (simp only [LNl];omega))) only [↓SDl,SDr,if_pos,↓hxb,↓(vbR_j g.2.2.2.2.2 x).b,tf_f hb,Bool.not_false]
 ·unfold vrB
  simp (disch:=(first | omega | (simp only [LNl];omega))) only [↓SDl,SDr,if_neg]
def VL (g:LG):Prop:=(0≤g.2.1∧g.2.1≤(g.1.length:Int)∧0≤g.2.2.1∧g.2.2.1≤1048576)∧(0≤g.2.2.2.2.2∧g.2.2.2.2.2≤1099511627776)∧(0≤g.2.2.2.2.1∧g.2.2.2.2.1≤1048576)∧opn g.2.2.2.1≤256∧∀i,i<g.2.2.2.1.length→OKi g i
theorem jv_b {β:Type} (b:List Int) (s c:Int) (f:Bool→Option β):bindO (journal_Valid (b,(s,c))) f=f (decide (0≤s∧s≤(b.length:Int)∧0≤c∧c≤1048576)):=by rw [Jn.valid_j];rfl
theorem va_j (g:LG) (hl:g.2.2.2.1.length≤1000000):Is (billing_Valid g) (VL g):=by
 rw [va_eq]
 by_cases h1:0≤g.2.1∧g.2.1≤(g.1.length:Int)∧0≤g.2.2.1∧g.2.2.1≤1048576
 ·skip
  by_cases h2:0≤g.2.2.2.2.2∧g.2.2.2.2.2≤1099511627776
  ·skip
   by_cases h3:0≤g.2.2.2.2.1∧g.2.2.2.2.1≤1048576
   ·skip
    by_cases h4:¬((opn g.2.2.2.1:Nat):Int) > 256
    ·skip
     simp (disch:=(first | omega | (simp only [LNl];omega))) only [↓SDl,SDr,↓jv_b,↓wit_b,↓oc_b _ hl,and_self,decide_true,decide_false,if_neg,h1,h2,h3,h4]
     rcases va_loop g hl h3 with ⟨h,e⟩ | ⟨h,e⟩
     ·rw [e];exact Is.t ⟨h1,h2,h3,by omega,h⟩
     ·rw [e];exact Is.f fun k=>h k.2.2.2.2
    ·(simp (disch:=(first | omega | (simp only [LNl];omega))) only [↓SDl,SDr,↓jv_b,↓wit_b,↓oc_b _ hl,and_self,decide_true,decide_false,if_pos,if_neg,h1,h2,h3,h4];exact Is.f fun k=>by unfold VL at k;omega)
   ·(simp (disch:=(first | omega | (simp only [LNl];omega))) only [↓SDl,SDr,↓jv_b,↓wit_b,↓oc_b _ hl,and_self,decide_true,decide_false,if_pos,if_neg,h1,h2,h3];exact Is.f fun k=>by unfold VL at k;omega)
  ·(simp (disch:=(first | omega | (simp only [LNl];omega))) only [↓SDl,SDr,↓jv_b,↓wit_b,↓oc_b _ hl,and_self,decide_true,decide_false,if_pos,if_neg,h1,h2];exact Is.f fun k=>by unfold VL at k;omega)
 ·(simp (disch:=(first | omega | (simp only [LNl];omega))) only [↓SDl,SDr,↓jv_b,↓wit_b,↓oc_b _ hl,and_self,decide_true,decide_false,if_pos,if_neg,h1];exact Is.f fun k=>by unfold VL at k;omega)
theorem jvR_b {β:Type} (b:List Int) (s c:Int) (f:Bool→Option β):bindO (dialtoneref20_Valid (b,(s,c))) f=f (decide (0≤s∧s≤(b.length:Int)∧0≤c∧c≤1048576)):=by
 have h:Is (dialtoneref20_Valid (b,(s,c))) (0≤s∧s≤(b.length:Int)∧0≤c∧c≤1048576):=by
  unfold dialtoneref20_Valid
  simp only [↓SDl,SDr,cond_ite,←decide_not,joinO_ite,outO_ite,bindO_ite]
  repeat' (refine Is.ite' (fun _ => ?_) (fun _ => ?_))
  all_goals first | exact Is.f (by omega) | exact Is.t (by omega) | exact Is.d (by omega)
 rcases h with ⟨k,e⟩ | ⟨k,e⟩
 ·rw [e,decide_eq_true k];rfl
 ·rw [e,decide_eq_false k];rfl
theorem vr_j (g:LG) (hl:g.2.2.2.1.length≤1000000):Is (dialtoneref38_Valid g) (VL g):=by
 rw [vr_eq]
 by_cases h1:0≤g.2.1∧g.2.1≤(g.1.length:Int)∧0≤g.2.2.1∧g.2.2.1≤1048576
 ·skip
  by_cases h2:¬g.2.2.2.2.2<0
  ·skip
   by_cases h2':¬g.2.2.2.2.2 > 1099511627776
   ·skip
    by_cases h3:¬g.2.2.2.2.1<0
    ·skip
     by_cases h3':¬g.2.2.2.2.1 > 1048576
     ·skip
      simp (disch:=(first | omega | (simp only [LNl];omega))) only [↓SDl,SDr,↓jvR_b,↓or_b _ hl,and_self,decide_true,decide_false,if_neg,h1,h2,h2',h3,h3']
      rcases vr_loop g hl ⟨by omega,by omega⟩ with ⟨h,e⟩ | ⟨h,e⟩
      ·rw [e,joinO_inl];exact Is.d ⟨fun k=>⟨h1,by omega,by omega,by omega,h⟩,fun k=>by unfold VL at k;omega⟩
      ·rw [e];exact Is.f fun k=>h k.2.2.2.2
     ·(simp (disch:=(first | omega | (simp only [LNl];omega))) only [↓SDl,SDr,↓jvR_b,and_self,decide_true,decide_false,if_pos,if_neg,h1,h2,h2',h3,h3'];exact Is.f fun k=>by unfold VL at k;omega)
    ·(simp (disch:=(first | omega | (simp only [LNl];omega))) only [↓SDl,SDr,↓jvR_b,and_self,decide_true,decide_false,if_pos,if_neg,h1,h2,h2',h3];exact Is.f fun k=>by unfold VL at k;omega)
   ·(simp (disch:=(first | omega | (simp only [LNl];omega))) only [↓SDl,SDr,↓jvR_b,and_self,decide_true,decide_false,if_pos,if_neg,h1,h2,h2'];exact Is.f fun k=>by unfold VL at k;omega)
  ·(simp (disch:=(first | omega | (simp only [LNl];omega))) only [↓SDl,SDr,↓jvR_b,and_self,decide_true,decide_false,if_pos,if_neg,h1,h2];exact Is.f fun k=>by unfold VL at k;omega)
 ·(simp (disch:=(first | omega | (simp only [LNl];omega))) only [↓SDl,SDr,↓jvR_b,and_self,decide_true,decide_false,if_pos,if_neg,h1];exact Is.f fun k=>by unfold VL at k;omega)
end Go.Proofs.Ytkpijdndakljjaa

set_option maxRecDepth 100000
namespace Go.Proofs.Ytkpijdndakljjaa
open Go.RowKit
theorem bl_irr:∀a:Tx,Op.bytesLess a a=false
 | []=>rfl
 | x::a=>by rw [Op.bytesLess,bl_irr a];simp
theorem bl_cons {x y:UInt8} {a b:Tx}:Op.bytesLess (x::a) (y::b)=true↔x.toNat<y.toNat∨(x=y∧Op.bytesLess a b=true):=by
 rw [Op.bytesLess]
 simp [UInt8.lt_iff_toNat_lt]
theorem bl_tr:∀ {a b c:Tx},Op.bytesLess a b=true→Op.bytesLess b c=true→Op.bytesLess a c=true
 | _,_,[],_,h=>by cases ‹Tx› <;> simp [Op.bytesLess] at h
 | _,[],_::_,h,_=>by cases ‹Tx› <;> simp [Op.bytesLess] at h
 | [],_::_,_::_,_,_=>rfl
 | x::a,y::b,z::c,h,k=>by
   rw [bl_cons] at h k ⊢
   rcases h with h | ⟨rfl,h⟩<;>rcases k with k | ⟨rfl,k⟩
   ·exact .inl (by omega)
   ·exact .inl h
   ·exact .inl k
   ·exact .inr ⟨rfl,bl_tr h k⟩
def psn (c:Tx):List BL→Nat
 | []=>0
 | b::l=>if b.2.2.2.2.2.2.1=0∧Op.bytesLess b.1 c=true then psn c l+1 else 0
theorem psn_le (c:Tx):∀l:List BL,psn c l≤opn l
 | []=>Nat.le_refl _
 | b::l=>by
   have:=psn_le c l
   rw [psn,opn]
   split
   ·rename_i h
    rw [if_pos h.1];omega
   ·exact Nat.zero_le _
theorem psn_in {c:Tx}:∀ {l:List BL} {i:Nat},i<psn c l→Op.bytesLess (l.getD i b0).1 c=true
 | [],i,h=>by simp [psn] at h
 | b::l,i,h=>by
   rw [psn] at h
   split at h
   ·rename_i hb
    cases i with
    | zero=>exact hb.2
    | succ i=>rw [List.getD_cons_succ];exact psn_in (by omega)
   ·omega
theorem psn_at {c:Tx}:∀ {l:List BL},psn c l<opn l→Op.bytesLess (l.getD (psn c l) b0).1 c=false
 | [],h=>by simp [psn,opn] at h
 | b::l,h=>by
   rw [psn] at h ⊢
   split at h
   ·rename_i hb
    rw [if_pos hb,List.getD_cons_succ]
    rw [opn,if_pos hb.1] at h
    exact psn_at (by omega)
   ·rename_i hb
    rw [if_neg hb]
    rw [opn] at h
    split at h
    ·rename_i h0
     cases hbl:Op.bytesLess b.1 c with
     | true=>exact (hb ⟨h0,hbl⟩).elim
     | false=>exact hbl
    ·omega
def Srt (l:List BL):Prop:=∀i j,i<j→j<opn l→Op.bytesLess (l.getD i b0).1 (l.getD j b0).1=true
theorem VL.srt {g:LG} (h:VL g):Srt g.2.2.2.1:=fun i j hij hj=>by
 have ho:=opn_le g.2.2.2.1
 induction j with
 | zero=>omega
 | succ j ih =>
   have hok:=(h.2.2.2.2 (j+1) (by omega)).2
   rcases hok with ⟨_,h2⟩ | ⟨h1,_⟩
   ·have h3:=h2 (by omega)
    rw [Nat.add_sub_cancel] at h3
    by_cases e:i=j
    ·subst e;exact h3
    ·exact bl_tr (ih (by omega) (by omega)) h3
   ·omega
theorem psn_iff {c:Tx} {l:List BL} (hs:Srt l) {m:Nat} (hm:m<opn l):Op.bytesLess (l.getD m b0).1 c=true↔m<psn c l:=by
 constructor
 ·intro h
  by_cases hp:m<psn c l
  ·exact hp
  ·exfalso
   have h1:=psn_at (c:=c) (l:=l) (by omega)
   by_cases e:m=psn c l
   ·subst e;rw [h1] at h;cases h
   ·have:=bl_tr (hs _ _ (show psn c l<m by omega) hm) h
    rw [h1] at this;cases this
 ·exact psn_in
def Fnd (c:Tx) (l:List BL):Prop:=psn c l<opn l∧(l.getD (psn c l) b0).1=c
theorem place_j (l:List BL) (c:Tx) (hl:l.length≤1000000) {p:Nat} (hp:p≤l.length) (hs:∀m,m<l.length→(Op.bytesLess (l.getD m b0).1 c=true↔m<p)):billing_place (l,c)=some (((p:Nat):Int),decide (p<l.length∧(l.getD p b0).1=c)):=by
 rw [pl_eq]
 have hloop:∀ {δ:Type},∃r:Int ⊕ δ,loopO (plB (δ:=δ) l c) ((((List.length l):Nat):Int),(0:Int))=some r∧r = .inl ((p:Nat):Int):=fun {δ}=>by
  refine loopO_post (fun x=>∃lo hi:Nat,x=(((hi:Nat):Int),((lo:Nat):Int))∧lo≤p∧p≤hi∧hi≤l.length) (fun r=>r=(.inl ((p:Nat):Int):Int ⊕ δ)) (fun x=>(x.1-x.2).toNat) (x:=(((l.length:Nat):Int),(0:Int))) (fun x hx => ?_) ⟨0,l.length,rfl,by omega,hp,Nat.le_refl _⟩
  obtain ⟨lo,hi,rfl,h1,h2,h3⟩:=hx
  by_cases hlt:lo<hi
  ·have hmid:∃m:Nat,Go.IntKind.wrap .i64 (Int.fdiv (Go.IntKind.wrap .u64 (((lo:Nat):Int)+((hi:Nat):Int))) (2:Int))=((m:Nat):Int)∧lo≤m∧m<hi:=by
    refine ⟨(lo+hi) / 2,?_,by omega,by omega⟩
    rw [wr_u64,Int.fdiv_eq_ediv_of_nonneg _ (by omega),wrap_i64' (by omega)]
    omega
   obtain ⟨m,hm,m1,m2⟩:=hmid
   obtain ⟨x,hx,hxb⟩:=get_at b0 (show m<l.length by omega)
   have hsm:=hs m (by omega)
   rw [hx] at hsm
   refine .inr ?_
   unfold plB
   cases hbl:Op.bytesLess x.1 c with
   | true =>
     have hmp:m<p:=hsm.1 hbl
     refine ⟨(((hi:Nat):Int),(((m+1:Nat)):Int)),?_,⟨m+1,hi,rfl,by omega,h2,h3⟩,by simp only;omega⟩
     simp (disch:=(first | omega | (simp only [LNl];omega))) only [↓SDl,SDr,if_pos,hm,↓hxb,hbl,wrap_i64',Bool.not_true,Bool.not_false]
     rfl
   | false =>
     have hmp:¬m<p:=fun h=>by rw [hsm.2 h] at hbl;cases hbl
     refine ⟨(((m:Nat):Int),((lo:Nat):Int)),?_,⟨lo,m,rfl,h1,by omega,by omega⟩,by simp only;omega⟩
     simp (disch:=(first | omega | (simp only [LNl];omega))) only [↓SDl,SDr,if_pos,hm,↓hxb,hbl,wrap_i64',Bool.not_true,Bool.not_false]
  ·refine .inl ⟨_,?_,rfl⟩
   obtain rfl:lo=p:=by omega
   unfold plB
   simp (disch:=(first | omega | (simp only [LNl];omega))) only [↓SDl,SDr,if_neg]
 obtain ⟨r,hr,rfl⟩:=hloop
 rw [hr]
 by_cases hpl:p<l.length
 ·obtain ⟨x,hx,hxb⟩:=get_at b0 hpl
  rw [hx]
  simp (disch:=(first | omega | (simp only [LNl];omega))) only [↓SDl,SDr,if_pos,↓hxb]
  rw [Option.some.injEq,Prod.mk.injEq]
  exact ⟨rfl,by rw [decide_eq_decide];exact ⟨fun h=>⟨hpl,h⟩,fun h=>h.2⟩⟩
 ·simp (disch:=(first | omega | (simp only [LNl];omega))) only [↓SDl,SDr,if_neg]
  rw [decide_eq_false (fun h=>hpl h.1)]
theorem find_j (g:LG) (c:Tx) (hl:g.2.2.2.1.length≤1000000) (hs:Srt g.2.2.2.1):billing_find (g,c)=some (((psn c g.2.2.2.1:Nat):Int),tf (Fnd c g.2.2.2.1)):=by
 have ho:=opn_le g.2.2.2.1
 have hp:=psn_le c g.2.2.2.1
 rw [fi_eq]
 have hlen:(g.2.2.2.1.take (opn g.2.2.2.1)).length=opn g.2.2.2.1:=by rw [List.length_take];omega
 have h:=place_j (g.2.2.2.1.take (opn g.2.2.2.1)) c (by omega) (p:=psn c g.2.2.2.1) (by omega) (fun m hm=>by rw [getD_take _ _ (by omega)];exact psn_iff hs (by omega))
 simp (disch:=(first | omega | (simp only [LNl];omega))) only [↓SDl,SDr,↓oc_b _ hl,if_pos,Int.toNat_natCast]
 rw [h,hlen]
 simp only [↓SDl]
 congr 2
 unfold Fnd
 by_cases hq:psn c g.2.2.2.1<opn g.2.2.2.1
 ·rw [getD_take _ _ hq]
  by_cases hc:(g.2.2.2.1.getD (psn c g.2.2.2.1) b0).1=c
  ·rw [tf_t ⟨hq,hc⟩,decide_eq_true ⟨hq,hc⟩]
  ·rw [tf_f (fun k=>hc k.2),decide_eq_false (fun k=>hc k.2)]
 ·rw [tf_f (fun k=>hq k.1),decide_eq_false (fun k=>hq k.1)]
theorem fdR_j (g:LG) (c:Tx) (hl:g.2.2.2.1.length≤1000000) (hs:Srt g.2.2.2.1):(Fnd c g.2.2.2.1∧dialtoneref38_find (g,c)=some ((psn c g.2.2.2.1:Nat):Int))∨(¬Fnd c g.2.2.2.1∧dialtoneref38_find (g,c)=some (-1:Int)):=by
 have ho:=opn_le g.2.2.2.1
 have hp:=psn_le c g.2.2.2.1
 rw [fd_eq]
 have hL:=loop_first (body:=fdB g c) (opn g.2.2.2.1) (fun i=>(g.2.2.2.1.getD i b0).1=c) (fun i => .inr ((i:Nat):Int)) (.inl ()) (fun i hi hn=>by
  obtain ⟨x,hx,hxb⟩:=get_at b0 (show i<g.2.2.2.1.length by omega)
  simp only [hx] at hn
  unfold fdB
  simp (disch:=(first | omega | (simp only [LNl];omega))) only [↓SDl,SDr,↓or_b _ hl,if_pos,if_neg,↓hxb,hn,wrap_i64',decide_false]
  rfl) (fun i hi hn=>by
  obtain ⟨x,hx,hxb⟩:=get_at b0 (show i<g.2.2.2.1.length by omega)
  simp only [hx] at hn
  unfold fdB
  simp (disch:=(first | omega | (simp only [LNl];omega))) only [↓SDl,SDr,↓or_b _ hl,if_pos,if_neg,↓hxb,hn,decide_true]) (by
  unfold fdB
  simp (disch:=(first | omega | (simp only [LNl];omega))) only [↓SDl,SDr,↓or_b _ hl,if_neg])
 rcases hL with ⟨i,k1,k2,k3,e⟩ | ⟨k,e⟩
 ·have hip:i=psn c g.2.2.2.1:=by
   have h1:¬i<psn c g.2.2.2.1:=fun h=>by
    have:=psn_in h
    rw [k2,bl_irr] at this;cases this
   by_cases h2:psn c g.2.2.2.1<i
   ·exfalso
    have:=hs _ _ h2 k1
    rw [k2,psn_at (by omega)] at this;cases this
   ·omega
  subst hip
  exact .inl ⟨⟨k1,k2⟩,by rw [e];rfl⟩
 ·exact .inr ⟨fun h=>k _ h.1 h.2,by rw [e];rfl⟩
end Go.Proofs.Ytkpijdndakljjaa

set_option maxRecDepth 100000
namespace Go.Proofs.Ytkpijdndakljjaa
open Go.RowKit
open Jn (be be_length be_cons be_bytes)
def txB (t:Tx):List Int:=t.map fun x=>((x.toNat:Nat):Int)
def tB (t:Tx):List Int:=be 2 ((t.length:Nat):Int)++txB t
def datL (ns:List Int) (ts:List Tx):List Int:=ns.flatMap (be 8)++ts.flatMap tB
theorem be_drop (n:Int):∀(k m:Nat),(be (k+m) n).drop k=be m n
 | 0,m=>by rw [List.drop_zero,Nat.zero_add]
 | k+1,m=>by
   rw [show k+1+m=(k+m)+1 from by omega,be_cons,List.drop_succ_cons]
   exact be_drop n k m
theorem be_take (n:Int) {k:Nat} (h:k<8):(be 8 n).take (k+1)=(be 8 n).take k++[n / 256 ^ (7-k) % 256]:=by
 have h1:=be_drop n k (8-k)
 rw [show k+(8-k)=8 from by omega] at h1
 have h2:be (8-k) n=(n / 256 ^ (7-k) % 256)::be (7-k) n:=by
  rw [show 8-k=(7-k)+1 from by omega,be_cons]
 rw [List.take_add_one]
 congr 1
 have h3:(be 8 n)[k]? = ((be 8 n).drop k)[0]? := by rw [List.getElem?_drop];rfl
 rw [h3,h1,h2]
 rfl
theorem p256 (m:Nat):(2:Int) ^ (8*m)=256 ^ m:=by rw [Int.pow_mul];rfl
theorem d8_loop {δ:Type} (x:Int) (hx:0≤x∧x<9223372036854775808) (L:List Int) (hL:L.length≤1000000):loopO (d8B (δ:=δ) x) ((56:Int),L)=some (.inl ((-8:Int),(L++be 8 x,x))):=by
 refine loopO_from (fun k=>((56:Int)-8*((k:Nat):Int),L++(be 8 x).take k)) 8 (by simp) (fun k hk => ?_) ?_
 ·have hl:((be 8 x).take k).length=k:=by rw [List.length_take,be_length];omega
  have hp:(2:Int) ^ (Min.min (Int.toNat ((56:Int)-8*((k:Nat):Int))) 64)=256 ^ (7-k):=by
   rw [show Min.min (Int.toNat ((56:Int)-8*((k:Nat):Int))) 64=8*(7-k) from by omega,p256]
  have hpos:(0:Int)≤256 ^ (7-k):=Int.pow_nonneg (by decide)
  have hv:Go.IntKind.wrap .u8 (Int.fdiv (Go.IntKind.wrap .u64 x) ((2:Int) ^ (Min.min (Int.toNat ((56:Int)-8*((k:Nat):Int))) 64)))=x / 256 ^ (7-k) % 256:=by
   rw [hp,wr_u64,wr_u8,show x % 18446744073709551616=x from by omega,Int.fdiv_eq_ediv_of_nonneg _ hpos]
  rw [be_take x hk,←List.append_assoc]
  unfold d8B
  simp (disch:=(first | omega | (simp only [LNl];omega))) only [↓SDl,SDr,if_pos,hv,wrap_i64']
  rw [show (56:Int)-8*((k:Nat):Int)-8=56-8*((k+1:Nat):Int) from by omega]
 ·unfold d8B
  rw [List.take_of_length_le (show (be 8 x).length≤8 by rw [be_length];omega)]
  simp (disch:=(first | omega | (simp only [LNl];omega))) only [↓SDl,SDr,if_neg]
  rfl
theorem fm_take {α β:Type} (f:α→List β) (l:List α) (d:α) {i:Nat} (h:i<l.length):(l.take (i+1)).flatMap f=(l.take i).flatMap f++f (l.getD i d):=by
 rw [take_snoc l d h,List.flatMap_append,List.flatMap_singleton]
theorem fm8_len (l:List Int):(l.flatMap (be 8)).length=8*l.length:=by
 induction l with
 | nil=>rfl
 | cons x l ih=>rw [List.flatMap_cons,List.length_append,ih,be_length,List.length_cons];omega
theorem tB_len (t:Tx):(tB t).length=2+t.length:=by rw [tB,List.length_append,be_length,txB,List.length_map]
theorem fmt_len {l:List Tx} (h:∀t∈l,t.length≤1000):(l.flatMap tB).length≤1002*l.length:=by
 induction l with
 | nil=>simp
 | cons x l ih =>
   rw [List.flatMap_cons,List.length_append,tB_len,List.length_cons]
   have:=ih fun t ht=>h t (List.mem_cons_of_mem _ ht)
   have:=h x List.mem_cons_self
   omega
theorem getD_mem {α:Type} {l:List α} {d:α} {i:Nat} (h:i<l.length):l.getD i d∈l:=by
 rw [List.getD_eq_getElem?_getD,List.getElem?_eq_getElem h]
 exact List.getElem_mem h
def DOk (ns:List Int) (ts:List Tx):Prop:=(ns.length≤10∧∀n∈ns,0≤n∧n<9223372036854775808)∧(ts.length≤10∧∀t∈ts,t.length≤1000)
theorem be2 (n:Int):be 2 n=[n / 256 % 256,n % 256]:=by
 rw [be_cons,be_cons]
 simp [be]
theorem data_j {ns:List Int} {ts:List Tx} (h:DOk ns ts):billing_data (ns,ts)=some (datL ns ts):=by
 obtain ⟨⟨h1,h2⟩,h3,h4⟩:=h
 rw [da_eq]
 have hn:∀ {δ:Type},loopO (dnB (δ:=δ) ns) ((0:Int),([]:List Int))=some (.inl (ns.flatMap (be 8))):=fun {δ}=>by
  refine loopO_from (fun i=>(((i:Nat):Int),(ns.take i).flatMap (be 8))) ns.length (by simp) (fun i hi => ?_) ?_
  ·obtain ⟨x,hx,hxb⟩:=get_at (0:Int) hi
   have hm:=h2 _ (getD_mem (d:=(0:Int)) hi)
   rw [fm_take (be 8) ns 0 hi]
   rw [hx] at hm ⊢
   have hl:((ns.take i).flatMap (be 8)).length≤1000:=by rw [fm8_len,List.length_take];omega
   generalize (ns.take i).flatMap (be 8)=L at *
   unfold dnB
   simp (disch:=(first | omega | (simp only [LNl];omega))) only [↓SDl,SDr,if_pos,↓hxb,↓d8_loop x hm L (by omega),wrap_i64']
   rfl
  ·unfold dnB
   simp (disch:=(first | omega | (simp only [LNl];omega))) only [↓SDl,SDr,if_neg]
 have ht:∀ {δ:Type} (L:List Int),L.length≤1000→loopO (dtB (δ:=δ) ts) ((0:Int),L)=some (.inl (L++ts.flatMap tB)):=fun {δ} L hL=>by
  refine loopO_from (fun i=>(((i:Nat):Int),L++(ts.take i).flatMap tB)) ts.length (by simp) (fun i hi => ?_) ?_
  ·obtain ⟨x,hx,hxb⟩:=get_at ([]:Tx) hi
   have hm:=h4 _ (getD_mem (d:=([]:Tx)) hi)
   have hl:=fmt_len (l:=ts.take i) fun t ht=>h4 t (List.mem_of_mem_take ht)
   rw [List.length_take] at hl
   rw [fm_take tB ts [] hi,←List.append_assoc]
   rw [hx] at hm ⊢
   generalize hM:L++(ts.take i).flatMap tB=M
   have hMl:M.length≤20000:=by rw [←hM,List.length_append];omega
   have e1:Go.IntKind.wrap .u8 (Int.fdiv (((List.length x):Nat):Int) (256:Int))=((x.length:Nat):Int) / 256 % 256:=by rw [wr_u8,Int.fdiv_eq_ediv_of_nonneg _ (by decide)]
   have e2:Go.IntKind.wrap .u8 (((List.length x):Nat):Int)=((x.length:Nat):Int) % 256:=by rw [wr_u8]
   rw [tB,be2]
   unfold dtB
   have hl2:∀f:UInt8→Int,(List.map f x).length=x.length:=fun f=>List.length_map ..
   simp (disch:=first | omega | (simp only [List.length_append,List.length_cons,List.length_nil,List.length_map];omega)) only [↓SDl,SDr,if_pos,↓hxb,e1,e2,wrap_i64',List.append_assoc]
   rfl
  ·unfold dtB
   simp (disch:=(first | omega | (simp only [LNl];omega))) only [↓SDl,SDr,if_neg]
 rw [hn]
 simp only [↓SDl,SDr]
 rw [ht _ (by rw [fm8_len];omega)]
 simp only [↓SDl,SDr]
 rfl
end Go.Proofs.Ytkpijdndakljjaa

set_option maxRecDepth 100000
namespace Go.Proofs.Ytkpijdndakljjaa
open Go.RowKit
open Jn (be be_length be_cons be_bytes)
theorem set_rep (n:Int) (m:Nat) (v:Int) (L:List Int):(List.replicate (m+1) (0:Int)++L).set m v=List.replicate m 0++(v::L):=by
 rw [List.set_append]
 rw [if_pos (by simp)]
 rw [List.replicate_succ',List.set_append]
 rw [if_neg (by simp),List.length_replicate,Nat.sub_self,List.set_cons_zero,List.append_assoc]
 rfl
theorem number_j (n:Int) (hn:0≤n∧n<9223372036854775808):dialtoneref38_number n=some (be 8 n):=by
 rw [nu_eq]
 have hloop:∀ {δ:Type},loopO (nuB (δ:=δ)) ((7:Int),(n,(List.replicate 8 (0:Int))))=some (.inl (be 8 n)):=fun {δ}=>by
  refine loopO_from (fun k=>((7:Int)-((k:Nat):Int),(n / 256 ^ k,List.replicate (8-k) (0:Int)++be k n))) 8 (by simp [be]) (fun k hk => ?_) ?_
  ·have hp:(0:Int)<256 ^ k:=Int.pow_pos (by decide)
   have h0:0≤n / 256 ^ k:=Int.ediv_nonneg hn.1 (Int.le_of_lt hp)
   have h1:n / 256 ^ k≤n:=Int.ediv_le_self _ hn.1
   have hlen:(List.replicate (8-k) (0:Int)++be k n).length=8:=by rw [List.length_append,List.length_replicate,be_length];omega
   have e1:Int.tdiv (n / 256 ^ k) (256:Int)=n / 256 ^ (k+1):=by rw [Int.tdiv_eq_ediv_of_nonneg h0,Int.ediv_ediv_of_nonneg (Int.le_of_lt hp),Int.pow_succ]
   have e2:Int.tmod (n / 256 ^ k) (256:Int)=n / 256 ^ k % 256:=Int.tmod_eq_emod_of_nonneg h0
   have h2:n / 256 ^ (k+1)≤n:=Int.ediv_le_self _ hn.1
   have h3:0≤n / 256 ^ (k+1):=Int.ediv_nonneg hn.1 (Int.le_of_lt (Int.pow_pos (by decide)))
   have hset:=set_rep n (7-k) (n / 256 ^ k % 256) (be k n)
   rw [show 7-k+1=8-k from by omega] at hset
   have hix:Int.toNat ((7:Int)-((k:Nat):Int))=7-k:=by omega
   obtain ⟨y,hy⟩:∃y,(List.replicate (8-k) (0:Int)++be k n)[7-k]? = some y:=⟨_,List.getElem?_eq_getElem (by rw [hlen];omega)⟩
   have hw:Go.IntKind.wrap .u8 (n / 256 ^ k % 256)=n / 256 ^ k % 256:=by rw [wr_u8];omega
   rw [be_cons,show 8-(k+1)=7-k from by omega,show (7:Int)-((k+1:Nat):Int)=7-((k:Nat):Int)-1 from by omega]
   unfold nuB
   simp only [↓SDl,SDr,if_pos (show (7:Int)-((k:Nat):Int)≥0 by omega),if_pos (show (0:Int)≤(7:Int)-((k:Nat):Int)∧(7:Int)-((k:Nat):Int)<8 by omega),hix,hy,e1,e2,hw,hset,wrap_i64' (show -9223372036854775808≤n / 256 ^ (k+1)∧n / 256 ^ (k+1)≤9223372036854775807 by omega),wrap_i64' (show -9223372036854775808≤(7:Int)-((k:Nat):Int)-1∧(7:Int)-((k:Nat):Int)-1≤9223372036854775807 by omega)]
  ·unfold nuB
   simp (disch:=(first | omega | (simp only [LNl];omega))) only [↓SDl,SDr,if_neg]
   rfl
 rw [hloop]
 have hl:=be_length 8 n
 simp only [↓SDl,SDr,hl]
 rw [List.take_of_length_le (by omega)]
theorem dataR_j {ns:List Int} {ts:List Tx} (h:DOk ns ts):dialtoneref38_data (ns,ts)=some (datL ns ts):=by
 obtain ⟨⟨h1,h2⟩,h3,h4⟩:=h
 rw [dr_eq]
 have hn:∀ {δ:Type},loopO (drB (δ:=δ) ns) ((0:Int),([]:List Int))=some (.inl (ns.flatMap (be 8))):=fun {δ}=>by
  refine loopO_from (fun i=>(((i:Nat):Int),(ns.take i).flatMap (be 8))) ns.length (by simp) (fun i hi => ?_) ?_
  ·obtain ⟨x,hx,hxb⟩:=get_at (0:Int) hi
   have hm:=h2 _ (getD_mem (d:=(0:Int)) hi)
   rw [fm_take (be 8) ns 0 hi]
   rw [hx] at hm ⊢
   have hl:((ns.take i).flatMap (be 8)).length≤1000:=by rw [fm8_len,List.length_take];omega
   have hl8:=be_length 8 x
   generalize (ns.take i).flatMap (be 8)=L at *
   unfold drB
   simp (disch:=first | omega | (simp only [List.length_append,hl8];omega)) only [↓SDl,SDr,if_pos,↓hxb,number_j x hm,wrap_i64']
   rfl
  ·unfold drB
   simp (disch:=(first | omega | (simp only [LNl];omega))) only [↓SDl,SDr,if_neg]
 have ht:∀ {δ:Type} (L:List Int),L.length≤1000→loopO (trB (δ:=δ) ts) ((0:Int),L)=some (.inl (L++ts.flatMap tB)):=fun {δ} L hL=>by
  refine loopO_from (fun i=>(((i:Nat):Int),L++(ts.take i).flatMap tB)) ts.length (by simp) (fun i hi => ?_) ?_
  ·obtain ⟨x,hx,hxb⟩:=get_at ([]:Tx) hi
   have hm:=h4 _ (getD_mem (d:=([]:Tx)) hi)
   have hl:=fmt_len (l:=ts.take i) fun t ht=>h4 t (List.mem_of_mem_take ht)
   rw [List.length_take] at hl
   rw [fm_take tB ts [] hi,←List.append_assoc]
   rw [hx] at hm ⊢
   generalize hM:L++(ts.take i).flatMap tB=M
   have hMl:M.length≤20000:=by rw [←hM,List.length_append];omega
   have e1:Go.IntKind.wrap .u8 (Go.IntKind.wrap .i64 (Int.tdiv (((List.length x):Nat):Int) (256:Int)))=((x.length:Nat):Int) / 256 % 256:=by
    rw [Int.tdiv_eq_ediv_of_nonneg (by omega),wrap_i64' (by omega),wr_u8]
   have e2:Go.IntKind.wrap .u8 (Int.tmod (((List.length x):Nat):Int) (256:Int))=((x.length:Nat):Int) % 256:=by
    rw [Int.tmod_eq_emod_of_nonneg (by omega),wr_u8];omega
   rw [tB,be2]
   unfold trB
   simp (disch:=first | omega | (simp only [List.length_append,List.length_cons,List.length_nil,List.length_map];omega)) only [↓SDl,SDr,if_pos,↓hxb,e1,e2,wrap_i64',List.append_assoc]
   rfl
  ·unfold trB
   simp (disch:=(first | omega | (simp only [LNl];omega))) only [↓SDl,SDr,if_neg]
 rw [hn]
 simp only [↓SDl,SDr]
 rw [ht _ (by rw [fm8_len];omega)]
 simp only [↓SDl,SDr]
 rfl
theorem bytes_tx (t:Tx):Bytes (txB t):=fun x hx=>by
 rw [txB,List.mem_map] at hx
 obtain ⟨y,_,rfl⟩:=hx
 have:=y.toNat_lt
 omega
theorem bytes_fm {α:Type} (f:α→List Int) (h:∀a,Bytes (f a)):∀l:List α,Bytes (l.flatMap f)
 | []=>fun x hx=>by cases hx
 | a::l=>by rw [List.flatMap_cons];exact (h a).app (bytes_fm f h l)
theorem datL_bytes (ns:List Int) (ts:List Tx):Bytes (datL ns ts):=(bytes_fm _ (be_bytes 8) ns).app (bytes_fm _ (fun t=>(be_bytes 2 _).app (bytes_tx t)) ts)
theorem datL_length (ns:List Int) (ts:List Tx):(datL ns ts).length=8*ns.length+(ts.flatMap tB).length:=by rw [datL,List.length_append,fm8_len]
def addR (lg:List Int×(Int×Int)) (k:Int) (d:List Int):List Int×(Int×Int):=(lg.1++Jn.encB lg.2.2 k d,(lg.2.1,lg.2.2+1))
def LgOk (lg:List Int×(Int×Int)):Prop:=lg.1.length≤900000∧(0≤lg.2.1∧lg.2.1≤(lg.1.length:Int))∧(0≤lg.2.2∧lg.2.2<1048576)
theorem write_j {lg:List Int×(Int×Int)} {k:Int} {d:List Int} (h:LgOk lg) (hk:0≤k∧k≤255) (hd:Bytes d) (hl:d.length≤4096):billing_write (lg,(k,d))=some (addR lg k d,0):=by
 obtain ⟨B,s,n⟩:=lg
 obtain ⟨h1,h2,h3⟩:=h
 simp only at h1 h2 h3
 unfold billing_write
 simp (disch:=(first | omega | (simp only [LNl];omega))) only [↓SDl,SDr,if_neg,↓Jn.append_j B s n k d h1 h2 h3 ⟨hk,hd,hl⟩]
 rfl
theorem write_full {lg:List Int×(Int×Int)} {k:Int} {d:List Int} (h:lg.2.2≥1048576):billing_write (lg,(k,d))=some (([],(0,0)),10):=by
 obtain ⟨B,s,n⟩:=lg
 unfold billing_write
 simp (disch:=(first | omega | (simp only [LNl];omega))) only [↓SDl,SDr,if_pos]
theorem appR_j {lg:List Int×(Int×Int)} {k:Int} {d:List Int} (h:LgOk lg) (hk:0≤k∧k≤255) (hd:Bytes d) (hl:d.length≤4096):dialtoneref20_Append (lg,(k,d))=some (addR lg k d,0):=by
 obtain ⟨B,s,n⟩:=lg
 obtain ⟨h1,h2,h3⟩:=h
 simp only at h1 h2 h3
 have he:Jn.encS n k d=(Jn.encB n k d,0):=by
  unfold Jn.encS
  rw [if_neg (by omega),if_neg (by omega),if_neg (by omega)]
 have hen:=Jn.encode_r n k d (by omega) hk hd
 rw [he] at hen
 have lB:=Jn.encB_length n k d
 unfold dialtoneref20_Append
 simp (disch:=(first | omega | (simp only [LNl];omega))) only [↓SDl,SDr,↓jvR_b,decide_true,hen,if_pos,if_neg,ne_eq,not_true_eq_false,decide_false,wrap_i64']
 rfl
end Go.Proofs.Ytkpijdndakljjaa

set_option maxRecDepth 100000
set_option maxHeartbeats 4000000
namespace Go.Proofs.Ytkpijdndakljjaa
open Go.RowKit
theorem wr_b {β:Type} {B:List Int} {s n k:Int} {d:List Int} (h:LgOk (B,(s,n))) (hk:0≤k∧k≤255) (hd:Bytes d) (hl:d.length≤4096) (f:(List Int×(Int×Int))×Int→Option β):bindO (billing_write ((B,(s,n)),(k,d))) f=f ((B++Jn.encB n k d,(s,n+1)),0):=by rw [write_j h hk hd hl];rfl
theorem wf_b {β:Type} {B:List Int} {s n k:Int} {d:List Int} (h:n≥1048576) (f:(List Int×(Int×Int))×Int→Option β):bindO (billing_write ((B,(s,n)),(k,d))) f=f (([],(0,0)),10):=by rw [write_full (lg:=(B,(s,n))) h];rfl
theorem apR_b {β:Type} {B:List Int} {s n k:Int} {d:List Int} (h:LgOk (B,(s,n))) (hk:0≤k∧k≤255) (hd:Bytes d) (hl:d.length≤4096) (f:(List Int×(Int×Int))×Int→Option β):bindO (dialtoneref20_Append ((B,(s,n)),(k,d))) f=f ((B++Jn.encB n k d,(s,n+1)),0):=by rw [appR_j h hk hd hl];rfl
theorem data_b {β:Type} {ns:List Int} {ts:List Tx} (h:DOk ns ts) (f:List Int→Option β):bindO (billing_data (ns,ts)) f=f (datL ns ts):=by rw [data_j h];rfl
theorem dataR_b {β:Type} {ns:List Int} {ts:List Tx} (h:DOk ns ts) (f:List Int→Option β):bindO (dialtoneref38_data (ns,ts)) f=f (datL ns ts):=by rw [dataR_j h];rfl
theorem clone_b {α β:Type} {l:List α} (h:l.length≤1000000) (f:List α→Option β):bindO (cloneG l) f=f l:=by
 unfold cloneG
 rw [decide_eq_true h];rfl
theorem ins_b {α β:Type} {l:List α} {p:Nat} {v:α} (h:l.length≤1000000) (hp:p≤l.length) (f:List α→Option β):bindO (insG (l,(((p:Nat):Int),[v]))) f=f (l.take p++[v]++l.drop p):=by
 unfold insG
 simp only [cond_ite]
 rw [if_pos h,if_pos (by omega),if_pos (show [v].length=1 from rfl),Int.toNat_natCast]
 rfl
theorem del_b {α β:Type} {l:List α} {p:Nat} {j:Int} (h:l.length≤1000000) (hp:p<l.length) (hj:j=((p:Nat):Int)+1) (f:List α→Option β):bindO (delG (l,(((p:Nat):Int),j))) f=f (l.take p++l.drop (p+1)):=by
 unfold delG
 simp only [cond_ite]
 rw [if_pos h,if_pos (by omega),if_pos hj,Int.toNat_natCast]
 rfl
theorem begun_b {β:Type} (t:Int) (a b c:Tx) (f:BL→Option β):bindO (billing_begun (t,(a,(b,c)))) f=f (a,(b,(c,(t,(-1,(t,(0,(0,(0,false))))))))):=rfl
theorem find_b {β:Type} (g:LG) (c:Tx) (hl:g.2.2.2.1.length≤1000000) (hs:Srt g.2.2.2.1) (f:Int×Bool→Option β):bindO (billing_find (g,c)) f=f (((psn c g.2.2.2.1:Nat):Int),tf (Fnd c g.2.2.2.1)):=by rw [find_j g c hl hs];rfl
theorem fdt_b {β:Type} {g:LG} {c:Tx} (hl:g.2.2.2.1.length≤1000000) (hs:Srt g.2.2.2.1) (h:Fnd c g.2.2.2.1) (f:Int→Option β):bindO (dialtoneref38_find (g,c)) f=f ((psn c g.2.2.2.1:Nat):Int):=by
 rcases fdR_j g c hl hs with ⟨_,e⟩ | ⟨k,_⟩
 ·rw [e];rfl
 ·exact (k h).elim
theorem fdf_b {β:Type} {g:LG} {c:Tx} (hl:g.2.2.2.1.length≤1000000) (hs:Srt g.2.2.2.1) (h:¬Fnd c g.2.2.2.1) (f:Int→Option β):bindO (dialtoneref38_find (g,c)) f=f (-1):=by
 rcases fdR_j g c hl hs with ⟨k,_⟩ | ⟨_,e⟩
 ·exact (h k).elim
 ·rw [e];rfl
theorem full_b {β:Type} (g:LG) (f:Bool→Option β):bindO (dialtoneref38_full g) f=f (decide (g.2.2.1≥1048576)):=by rw [fu_eq];rfl
def Tm (g:LG) (n:Int):Prop:=VL g∧g.2.2.2.2.2≤n∧n≤1099511627776
theorem timed_j (g:LG) (n:Int) (hl:g.2.2.2.1.length≤1000000):Is (dialtoneref38_timed (g,n)) (Tm g n):=by
 rw [ti_eq]
 by_cases hv:VL g
 ·simp only [↓SDl,SDr,↓(vr_j g hl).b,tf_t hv]
  refine Is.ite' (fun h=>Is.d ⟨fun k=>⟨hv,by omega,k⟩,fun k=>k.2.2⟩) (fun h=>Is.f fun k=>h (by have:=k.2.1;omega))
 ·simp only [↓SDl,SDr,↓(vr_j g hl).b,tf_f hv]
  exact Is.f fun k=>hv k.1
def zG:LG:=([],(0,(0,([],(0,0)))))
def bgn (b:BL):BL:=(b.1,(b.2.1,(b.2.2.1,(b.2.2.2.1,(-1,(b.2.2.2.1,(0,(0,(0,false)))))))))
def insB (l:List BL) (b:BL):List BL:=l.take (psn b.1 l)++[b]++l.drop (psn b.1 l)
def BA (g:LG) (b:BL):Prop:=Tm g b.2.2.2.1∧(1≤b.1.length∧b.1.length≤200∧b.2.1.length≤200∧b.2.2.1.length≤200)
def dB (b:BL):List Int:=datL [b.2.2.2.1] [b.1,b.2.1,b.2.2.1]
open Classical in
noncomputable def begR (g:LG) (b:BL):LG×Int :=
 if BA g b then (if Fnd b.1 g.2.2.2.1 then (zG,7) else if opn g.2.2.2.1≥256∨g.2.2.1≥1048576 then (zG,10) else
  ((g.1++Jn.encB g.2.2.1 1 (dB b),(g.2.1,(g.2.2.1+1,(insB g.2.2.2.1 (bgn b),(g.2.2.2.2.1,b.2.2.2.1))))),0)) else (zG,2)
theorem VL.lg {g:LG} (h:VL g) (hB:g.1.length≤900000) (hc:g.2.2.1<1048576):LgOk (g.1,(g.2.1,g.2.2.1)):=⟨hB,⟨h.1.1,h.1.2.1⟩,⟨h.1.2.2.1,hc⟩⟩
theorem dB_ok {g:LG} {b:BL} (h:BA g b):DOk [b.2.2.2.1] [b.1,b.2.1,b.2.2.1]∧(dB b).length≤4096:=by
 obtain ⟨⟨hv,h1,h2⟩,h3⟩:=h
 have h0:=hv.2.1
 refine ⟨⟨⟨by simp,fun n hn => ?_⟩,by simp,fun t ht => ?_⟩,?_⟩
 ·rw [List.mem_singleton] at hn;subst hn;omega
 ·simp only [List.mem_cons,List.not_mem_nil,or_false] at ht
  rcases ht with rfl | rfl | rfl<;>omega
 ·rw [dB,datL_length]
  simp only [List.flatMap_cons,List.flatMap_nil,List.length_append,tB_len,List.length_cons,List.length_nil]
  omega
theorem begin_j (g:LG) (b:BL) (hl:g.2.2.2.1.length≤1000000) (hB:g.1.length≤900000):billing_Begin (g,b)=some (begR g b):=by
 have ho:=opn_le g.2.2.2.1
 rw [bg_eq]
 unfold begR
 by_cases h:BA g b
 ·rw [if_pos h]
  have hd:=dB_ok h
  obtain ⟨⟨hv,t1,t2⟩,l1,l2,l3,l4⟩:=h
  have hs:=hv.srt
  have hp:=psn_le b.1 g.2.2.2.1
  by_cases hf:Fnd b.1 g.2.2.2.1
  ·rw [if_pos hf]
   simp (disch:=(first | omega | (simp only [LNl];omega))) only [↓SDl,SDr,↓(va_j g hl).b,tf_t hv,↓wit_b,if_pos,if_neg,↓find_b g b.1 hl hs,tf_t hf]
   rfl
  ·rw [if_neg hf]
   by_cases hfull:opn g.2.2.2.1≥256∨g.2.2.1≥1048576
   ·rw [if_pos hfull]
    by_cases ho6:opn g.2.2.2.1≥256
    ·simp (disch:=(first | omega | (simp only [LNl];omega))) only [↓SDl,SDr,↓(va_j g hl).b,tf_t hv,↓wit_b,if_pos,if_neg,↓find_b g b.1 hl hs,tf_f hf,↓oc_b _ hl]
     rfl
    ·have hc:g.2.2.1≥1048576:=by omega
     simp (disch:=(first | omega | (simp only [LNl];omega))) only [↓SDl,SDr,↓(va_j g hl).b,tf_t hv,↓wit_b,if_pos,if_neg,↓find_b g b.1 hl hs,tf_f hf,↓oc_b _ hl,↓data_b hd.1,↓wf_b hc]
     rfl
   ·rw [if_neg hfull]
    have hlg:=hv.lg hB (by omega)
    simp (disch:=(first | omega | (simp only [LNl];omega))) only [↓SDl,SDr,↓(va_j g hl).b,tf_t hv,↓wit_b,if_pos,if_neg,↓find_b g b.1 hl hs,tf_f hf,↓oc_b _ hl,↓data_b hd.1,↓wr_b hlg (show (0:Int)≤1∧(1:Int)≤255 by omega) (datL_bytes _ _) hd.2,↓clone_b hl,↓begun_b,↓ins_b hl (show psn b.1 g.2.2.2.1≤g.2.2.2.1.length by omega),decide_true,Bool.and_true,Bool.true_and]
    rfl
 ·rw [if_neg h]
  by_cases hv:VL g
  ·have h0:=hv.2.1
   by_cases h1:g.2.2.2.2.2≤b.2.2.2.1∧b.2.2.2.1≤1099511627776
   ·by_cases h2:1≤b.1.length∧b.1.length≤200
    ·by_cases h3:b.2.1.length≤200
     ·by_cases h4:b.2.2.1.length≤200
      ·exact (h ⟨⟨hv,h1⟩,h2.1,h2.2,h3,h4⟩).elim
      ·simp (disch:=(first | omega | (simp only [LNl];omega))) only [↓SDl,SDr,↓(va_j g hl).b,tf_t hv,↓wit_b,if_pos,if_neg]
       rfl
     ·simp (disch:=(first | omega | (simp only [LNl];omega))) only [↓SDl,SDr,↓(va_j g hl).b,tf_t hv,↓wit_b,if_pos,if_neg]
      rfl
    ·simp (disch:=(first | omega | (simp only [LNl];omega))) only [↓SDl,SDr,↓(va_j g hl).b,tf_t hv,↓wit_b,if_pos,if_neg]
     rfl
   ·simp (disch:=(first | omega | (simp only [LNl];omega))) only [↓SDl,SDr,↓(va_j g hl).b,tf_t hv,↓wit_b,if_neg,h1,decide_false]
    rfl
  ·simp only [↓SDl,SDr,↓(va_j g hl).b,tf_f hv]
   rfl
end Go.Proofs.Ytkpijdndakljjaa

set_option maxRecDepth 100000
set_option maxHeartbeats 4000000
namespace Go.Proofs.Ytkpijdndakljjaa
open Go.RowKit
def atG (g:LG) (bs:List BL) (last t:Int):LG:=(g.1,(g.2.1,(g.2.2.1,(bs,(last,maxA g.2.2.2.2.2 t)))))
def tch (k t:Int) (x:BL):BL:=(x.1,(x.2.1,(x.2.2.1,(x.2.2.2.1,(if k=2 then t else x.2.2.2.2.1,(t,x.2.2.2.2.2.2))))))
end Go.Proofs.Ytkpijdndakljjaa

set_option maxRecDepth 100000
set_option maxHeartbeats 4000000
namespace Go.Proofs.Ytkpijdndakljjaa
open Go.RowKit
theorem done_b {β:Type} {g:LG} {a:AC} {bs:List BL} {last t k:Int} {d:List Int} (he:dialtoneref38_effect (g,a)=some (atG g bs last t,true)) (hr:actRecord a=some (k,d)) (hlg:LgOk (g.1,(g.2.1,g.2.2.1))) (hk:0≤k∧k≤255) (hd:Bytes d) (hl:d.length≤4096) (f:LG→Option β) :
 bindO (dialtoneref38_done (g,a)) f=f (g.1++Jn.encB g.2.2.1 k d,(g.2.1,(g.2.2.1+1,(bs,(last,maxA g.2.2.2.2.2 t))))):=by
 rw [dn_eq,he,hr]
 unfold atG
 simp only [↓SDl,SDr,↓apR_b hlg hk hd hl]
theorem maxA_r {a b:Int} (h:a≤b):maxA a b=b:=by unfold maxA;split<;>omega
theorem BA.len {g:LG} {b:BL} (h:BA g b):b.1≠[]:=fun e=>by have:=h.2.1;rw [e] at this;simp at this
open Classical in
noncomputable def tchR (g:LG) (k:Int) (c:Tx) (t:Int):LG×Int :=
 if Tm g t then (if Fnd c g.2.2.2.1 then (if k=2∧(g.2.2.2.1.getD (psn c g.2.2.2.1) b0).2.2.2.2.1 ≠ -1 then (zG,9) else if g.2.2.1≥1048576 then (zG,10) else
  ((g.1++Jn.encB g.2.2.1 k (datL [t] [c]),(g.2.1,(g.2.2.1+1,(g.2.2.2.1.set (psn c g.2.2.2.1) (tch k t (g.2.2.2.1.getD (psn c g.2.2.2.1) b0)),(g.2.2.2.2.1,t))))),0)) else (zG,8)) else (zG,2)
theorem VL.at {g:LG} (h:VL g) {i:Nat} (hi:i<g.2.2.2.1.length):BK g.2.2.2.2.2 (g.2.2.2.1.getD i b0):=(h.2.2.2.2 i hi).1
theorem setget_b {β:Type} {l:List BL} {p:Nat} {A:BL} (h:p<l.length) (f:BL→Option β):bindO (List.set l p A)[p]? f=f A:=by
 rw [List.getElem?_set_self h];rfl
theorem dok1 {g:LG} {t:Int} {c:Tx} (h:Tm g t) (hc:c.length≤200):DOk [t] [c]∧(datL [t] [c]).length≤4096:=by
 have h0:=h.1.2.1
 have h1:=h.2
 refine ⟨⟨⟨by simp,fun n hn => ?_⟩,by simp,fun t ht => ?_⟩,?_⟩
 ·rw [List.mem_singleton] at hn;subst hn;omega
 ·rw [List.mem_singleton] at ht;subst ht;omega
 ·rw [datL_length]
  simp only [List.flatMap_cons,List.flatMap_nil,List.length_append,tB_len,List.length_cons,List.length_nil]
  omega
theorem touch_j (g:LG) (k:Int) (c:Tx) (t:Int) (hk:k=2∨k=3) (hl:g.2.2.2.1.length≤1000000) (hB:g.1.length≤900000):billing_touch (g,(k,(c,t)))=some (tchR g k c t):=by
 have ho:=opn_le g.2.2.2.1
 rw [to_eq]
 unfold tchR
 by_cases htm:Tm g t
 ·rw [if_pos htm]
  have hv:=htm.1
  have ht:=htm.2
  have hs:=hv.srt
  by_cases hf:Fnd c g.2.2.2.1
  ·rw [if_pos hf]
   have hlt:psn c g.2.2.2.1<g.2.2.2.1.length:=by have:=hf.1;omega
   have hb:=hv.at hlt
   have hxc:=hf.2
   obtain ⟨x,hx,hxb⟩:=get_at b0 hlt
   rw [hx] at hb hxc ⊢
   rw [Int.toNat_natCast] at hxb
   have hcl:c.length≤200:=by rw [←hxc];exact hb.1.2.1
   have hd:=dok1 htm hcl
   by_cases ha:k=2∧x.2.2.2.2.1 ≠ -1
   ·rw [if_pos ha]
    obtain ⟨rfl,ha⟩:=ha
    simp (disch:=(first | omega | (simp only [LNl];omega))) only [↓SDl,SDr,↓(va_j g hl).b,tf_t hv,↓wit_b,if_pos,if_neg,↓find_b g c hl hs,tf_t hf,Int.toNat_natCast,↓hxb]
    rfl
   ·rw [if_neg ha]
    by_cases hc:g.2.2.1≥1048576
    ·rw [if_pos hc]
     rcases hk with rfl | rfl
     ·have ha':¬x.2.2.2.2.1 ≠ -1:=fun h=>ha ⟨rfl,h⟩
      simp (disch:=(first | omega | (simp only [LNl];omega))) only [↓SDl,SDr,↓(va_j g hl).b,tf_t hv,↓wit_b,if_pos,if_neg,↓find_b g c hl hs,tf_t hf,Int.toNat_natCast,↓hxb,↓data_b hd.1,↓wf_b hc]
      rfl
     ·simp (disch:=(first | omega | (simp only [LNl];omega))) only [↓SDl,SDr,↓(va_j g hl).b,tf_t hv,↓wit_b,if_pos,if_neg,↓find_b g c hl hs,tf_t hf,Int.toNat_natCast,↓hxb,↓data_b hd.1,↓wf_b hc]
      rfl
    ·rw [if_neg hc]
     have hlg:=hv.lg hB (by omega)
     rcases hk with rfl | rfl
     ·have ha':¬x.2.2.2.2.1 ≠ -1:=fun h=>ha ⟨rfl,h⟩
      simp (disch:=first | omega | (simp only [LNl];omega)) only [↓SDl,SDr,↓(va_j g hl).b,tf_t hv,↓wit_b,if_pos,if_neg,↓find_b g c hl hs,tf_t hf,Int.toNat_natCast,↓hxb,↓data_b hd.1,↓wr_b hlg (show (0:Int)≤2∧(2:Int)≤255 by omega) (datL_bytes _ _) hd.2,↓clone_b hl,↓setget_b hlt,List.set_set]
      rw [List.take_of_length_le (by simp)]
      rfl
     ·simp (disch:=first | omega | (simp only [LNl];omega)) only [↓SDl,SDr,↓(va_j g hl).b,tf_t hv,↓wit_b,if_pos,if_neg,↓find_b g c hl hs,tf_t hf,Int.toNat_natCast,↓hxb,↓data_b hd.1,↓wr_b hlg (show (0:Int)≤3∧(3:Int)≤255 by omega) (datL_bytes _ _) hd.2,↓clone_b hl,↓setget_b hlt,List.set_set]
      rw [List.take_of_length_le (by simp)]
      rfl
  ·rw [if_neg hf]
   simp (disch:=(first | omega | (simp only [LNl];omega))) only [↓SDl,SDr,↓(va_j g hl).b,tf_t hv,↓wit_b,if_pos,if_neg,↓find_b g c hl hs,tf_f hf]
   rfl
 ·rw [if_neg htm]
  by_cases hv:VL g
  ·have h1:¬(g.2.2.2.2.2≤t∧t≤1099511627776):=fun h=>htm ⟨hv,h⟩
   simp (disch:=(first | omega | (simp only [LNl];omega))) only [↓SDl,SDr,↓(va_j g hl).b,tf_t hv,↓wit_b,if_neg,h1,decide_false]
   rfl
  ·simp only [↓SDl,SDr,↓(va_j g hl).b,tf_f hv]
   rfl
end Go.Proofs.Ytkpijdndakljjaa

set_option maxRecDepth 100000
set_option maxHeartbeats 4000000
namespace Go.Proofs.Ytkpijdndakljjaa
open Go.RowKit
namespace Rt
theorem cv_bd {r:Ra} {f a s:Int} (h:RV r) (hf:0≤f∧f≤3600) (ha:0≤a∧a≤281474976710656) (hs:0≤s∧s≤1000000):0≤CV r f a s∧CV r f a s≤1000000000*(s+1):=by
 have hfi:=h.1.2.2.1
 have hst:=h.1.2.2.2
 have hn:=pn_nn (f:=f) (fi:=r.2.2.1) (s:=s) hst.1
 have hle:=pn_le (st:=r.2.2.2.1) hst.1 hf.1 hfi.1 hs.1
 unfold CV
 split
 ·omega
 ·have:=cs_bd h.2.2 h.1.2.1 (n:=(PN f r.2.2.1 r.2.2.2.1 s).toNat) (mo:=MO a f r.2.2.1 r.2.2.2.1) (fun k hk=>by have:=mo_bd ha hf hfi hst (k:=k) (by omega);omega)
  omega
theorem cost_bd (l:List Ra) (f:Int) (num:List UInt8) (a b:Int):∃c e,rating_Cost ((l,f),(num,(a,b)))=some (c,e)∧dialtoneref37_Cost ((l,f),(num,(a,b)))=some (c,e)∧(0≤c∧c≤2000000000000000):=by
 obtain ⟨⟨c,e⟩,h1,h2⟩:=cost_same l f num a b
 refine ⟨c,e,h1,h2,?_⟩
 have z:∀q:Int,rating_Cost ((l,f),(num,(a,b)))=some (0,q)→0≤c∧c≤2000000000000000:=fun q hq=>by
  rw [h1] at hq;cases hq;omega
 by_cases hv:TV l f
 ·by_cases hs:Spn a b
  ·by_cases hq:SE a b≤1000000
   ·obtain ⟨r,e1,e2,k1,_⟩:=find_same l f num
    rcases k1 hv with ⟨rfl,_⟩ | ⟨i,hi,rfl,_⟩
    ·have w1:0≤a∧a≤281474976710656:=⟨hs.1,Int.le_trans hs.2.1 hs.2.2⟩
     have w2:a≤b∧b≤281474976710656:=hs.2
     refine z 8 ?_
     unfold rating_Cost
     simp (disch:=omega) only [↓SDl,SDr,validP_t hv,within_b,w1,w2,and_self,decide_true,secondsP_j,if_neg,e1]
    ·have w1:0≤a∧a≤281474976710656:=⟨hs.1,Int.le_trans hs.2.1 hs.2.2⟩
     have hp:=costP_v hv hs hq hi e1
     rw [h1] at hp
     have hb:=cv_bd (hv.2 i hi).1 hv.1.2 w1 ⟨(se_nn a b).1,hq⟩
     simp only [Option.some.injEq,Prod.mk.injEq] at hp
     rw [hp.1]
     omega
   ·have w1:0≤a∧a≤281474976710656:=⟨hs.1,Int.le_trans hs.2.1 hs.2.2⟩
    have w2:a≤b∧b≤281474976710656:=hs.2
    refine z 4 ?_
    unfold rating_Cost
    simp (disch:=omega) only [↓SDl,SDr,validP_t hv,within_b,w1,w2,and_self,decide_true,secondsP_j,if_pos]
  ·refine z 3 ?_
   unfold rating_Cost
   by_cases w1:0≤a∧a≤281474976710656
   ·have w2:¬(a≤b∧b≤281474976710656):=fun k=>hs ⟨w1.1,k⟩
    simp (disch:=omega) only [↓SDl,SDr,validP_t hv,within_b,w1,w2,and_self,decide_true,decide_false]
   ·simp (disch:=omega) only [↓SDl,SDr,validP_t hv,within_b,w1,decide_false]
 ·refine z 2 ?_
  unfold rating_Cost
  simp only [↓SDl,SDr,validP_f hv]
end Rt
noncomputable def coR (rs:List Ra) (fr:Int) (num:Tx) (a b:Int):Int:=match rating_Cost ((rs,fr),(num,(a,b))) with | some (c,e)=>if e=0 then c else 0 | none=>0
theorem co_spec (rs:List Ra) (fr:Int) (num:Tx) (a b:Int):∃c e,rating_Cost ((rs,fr),(num,(a,b)))=some (c,e)∧dialtoneref37_Cost ((rs,fr),(num,(a,b)))=some (c,e)∧coR rs fr num a b=(if e=0 then c else 0)∧(0≤coR rs fr num a b∧coR rs fr num a b≤2000000000000000):=by
 obtain ⟨c,e,h1,h2,h3⟩:=Rt.cost_bd rs fr num a b
 have h4:coR rs fr num a b=(if e=0 then c else 0):=by unfold coR;rw [h1]
 refine ⟨c,e,h1,h2,h4,?_⟩
 rw [h4]
 split<;>omega
theorem psn_self {l:List BL} (hs:Srt l) {p:Nat} (hp:p<opn l):psn (l.getD p b0).1 l=p∧Fnd (l.getD p b0).1 l:=by
 have h1:=psn_iff (c:=(l.getD p b0).1) hs hp
 have h2:=psn_le (l.getD p b0).1 l
 rw [bl_irr] at h1
 have h3:psn (l.getD p b0).1 l=p:=by
  by_cases h4:psn (l.getD p b0).1 l<p
  ·have h5:=(psn_iff (c:=(l.getD p b0).1) hs (show psn (l.getD p b0).1 l<opn l by omega)).1 (hs _ _ h4 hp)
   omega
  ·have h5:¬p<psn (l.getD p b0).1 l:=fun h=>by have:=h1.2 h;cases this
   omega
 exact ⟨h3,by omega,by rw [h3]⟩
def rst (l:List BL) (p:Nat):List BL:=l.take p++l.drop (p+1)
theorem rst_len {l:List BL} {p:Nat} (h:p<l.length):(rst l p).length+1=l.length:=by
 rw [rst,List.length_append,List.length_take,List.length_drop];omega
def rcd (x:BL) (t n s co:Int):BL:=(x.1,(x.2.1,(x.2.2.1,(x.2.2.2.1,(x.2.2.2.2.1,(t,(n,(s,(co,x.2.2.2.2.2.2.2.2.2)))))))))
def OK4 (l:List BL) (last t n s:Int) (c:Tx):Prop:=Fnd c l∧(l.getD (psn c l) b0).2.2.2.2.2.1≤t∧((n=0∧(l.getD (psn c l) b0).2.2.2.2.1 = -1)∨(n≠0∧(l.getD (psn c l) b0).2.2.2.2.1 ≠ -1∧n=last+1∧n≤1048576∧s=Rt.SE (l.getD (psn c l) b0).2.2.2.2.1 t))
theorem ef4_j (g:LG) (t n s co:Int) (c f to:Tx) (hl:g.2.2.2.1.length≤1000000) (hs:Srt g.2.2.2.1) (h5:0≤g.2.2.2.2.1∧g.2.2.2.2.1≤1048576) :
 (OK4 g.2.2.2.1 g.2.2.2.2.1 t n s c∧dialtoneref38_effect (g,(4,(t,(n,(s,(co,(c,(f,to))))))))=some (atG g (if n=0 then rst g.2.2.2.1 (psn c g.2.2.2.1) else rst g.2.2.2.1 (psn c g.2.2.2.1)++[rcd (g.2.2.2.1.getD (psn c g.2.2.2.1) b0) t n s co]) (if n=0 then g.2.2.2.2.1 else n) t,true)) ∨
 (¬OK4 g.2.2.2.1 g.2.2.2.2.1 t n s c∧∃g',dialtoneref38_effect (g,(4,(t,(n,(s,(co,(c,(f,to))))))))=some (g',false)):=by
 rw [wo_eq]
 have ho:=opn_le g.2.2.2.1
 have hF:=@fdt_b (LG×Bool) (atG g g.2.2.2.1 g.2.2.2.2.1 t) c hl hs
 have hN:=@fdf_b (LG×Bool) (atG g g.2.2.2.1 g.2.2.2.2.1 t) c hl hs
 unfold atG at hF hN
 simp only at hF hN
 unfold OK4
 by_cases hf:Fnd c g.2.2.2.1
 ·have hlt:psn c g.2.2.2.1<g.2.2.2.1.length:=by have:=hf.1;omega
  obtain ⟨x,hx,hxb⟩:=get_at b0 hlt
  have hrl:=rst_len hlt
  rw [hx]
  have e1:Int.toNat (((psn c g.2.2.2.1:Nat):Int)+1)=psn c g.2.2.2.1+1:=by omega
  have e2:g.2.2.2.1.take (psn c g.2.2.2.1)++g.2.2.2.1.drop (psn c g.2.2.2.1+1)=rst g.2.2.2.1 (psn c g.2.2.2.1):=rfl
  rw [Int.toNat_natCast] at hxb
  have hlast:Go.IntKind.wrap .i64 (g.2.2.2.2.1+(1:Int))=g.2.2.2.2.1+1:=wrap_i64' (by omega)
  by_cases h2:x.2.2.2.2.2.1≤t
  ·by_cases hn:n=0
   ·subst hn
    by_cases ha:x.2.2.2.2.1 = -1
    ·refine .inl ⟨⟨hf,h2,.inl ⟨rfl,ha⟩⟩,?_⟩
     simp (disch:=(first | omega | (simp only [LNl];omega))) only [↓SDl,SDr,if_pos,if_neg,↓hF hf,Int.toNat_natCast,↓hxb,wrap_i64',e1,e2,ha,decide_true]
     rfl
    ·refine .inr ⟨fun h=>by omega,atG g (rst g.2.2.2.1 (psn c g.2.2.2.1)) g.2.2.2.2.1 t,?_⟩
     simp (disch:=(first | omega | (simp only [LNl];omega))) only [↓SDl,SDr,if_pos,if_neg,↓hF hf,Int.toNat_natCast,↓hxb,wrap_i64',e1,e2,ha,decide_false]
     rfl
   ·by_cases h3:x.2.2.2.2.1 = -1
    ·refine .inr ⟨fun h=>by omega,atG g g.2.2.2.1 g.2.2.2.2.1 t,?_⟩
     simp (disch:=(first | omega | (simp only [LNl];omega))) only [↓SDl,SDr,if_pos,if_neg,↓hF hf,Int.toNat_natCast,↓hxb,wrap_i64',e1,e2]
     rfl
    ·by_cases h4:n=g.2.2.2.2.1+1
     ·by_cases h6:n≤1048576
      ·by_cases h7:s=Rt.SE x.2.2.2.2.1 t
       ·refine .inl ⟨⟨hf,h2,.inr ⟨hn,h3,h4,h6,h7⟩⟩,?_⟩
        rw [if_neg hn,if_neg hn]
        simp (disch:=(first | omega | (simp only [LNl];omega))) only [↓SDl,SDr,if_pos,if_neg,↓hF hf,Int.toNat_natCast,↓hxb,wrap_i64',e1,e2,↓secR_b]
        rfl
       ·refine .inr ⟨fun h=>by omega,atG g g.2.2.2.1 g.2.2.2.2.1 t,?_⟩
        simp (disch:=(first | omega | (simp only [LNl];omega))) only [↓SDl,SDr,if_pos,if_neg,↓hF hf,Int.toNat_natCast,↓hxb,wrap_i64',e1,e2,↓secR_b]
        rfl
      ·refine .inr ⟨fun h=>by omega,atG g g.2.2.2.1 g.2.2.2.2.1 t,?_⟩
       simp (disch:=(first | omega | (simp only [LNl];omega))) only [↓SDl,SDr,if_pos,if_neg,↓hF hf,Int.toNat_natCast,↓hxb,wrap_i64',e1,e2]
       rfl
     ·refine .inr ⟨fun h=>by omega,atG g g.2.2.2.1 g.2.2.2.2.1 t,?_⟩
      simp (disch:=(first | omega | (simp only [LNl];omega))) only [↓SDl,SDr,if_pos,if_neg,↓hF hf,Int.toNat_natCast,↓hxb,hlast,wrap_i64',e1,e2]
      rfl
  ·refine .inr ⟨fun h=>h2 h.2.1,atG g g.2.2.2.1 g.2.2.2.2.1 t,?_⟩
   simp (disch:=(first | omega | (simp only [LNl];omega))) only [↓SDl,SDr,if_pos,if_neg,↓hF hf,Int.toNat_natCast,↓hxb]
   rfl
 ·refine .inr ⟨fun h=>hf h.1,atG g g.2.2.2.1 g.2.2.2.2.1 t,?_⟩
  simp (disch:=(first | omega | (simp only [LNl];omega))) only [↓SDl,SDr,if_pos,if_neg,↓hN hf]
  rfl
end Go.Proofs.Ytkpijdndakljjaa
