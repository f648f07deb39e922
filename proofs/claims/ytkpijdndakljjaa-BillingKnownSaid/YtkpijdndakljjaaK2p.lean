import Derived.Test.YtkpijdndakljjaaU0p
import Derived.Test.YtkpijdndakljjaaZ2p
import Derived.Test.YtkpijdndakljjaaQ4p
import Derived.Test.YtkpijdndakljjaaK0p
set_option linter.unusedSimpArgs false
set_option linter.unusedVariables false
set_option maxRecDepth 1000000
set_option maxHeartbeats 0
namespace Go.Proofs.Ytkpijdndakljjaa
open Go.RowKit
def journal_Valid_F:((List Int)×(Int×Int))→Option Bool:=fun (a1,(a2,a3)) =>
 bif (decide (a2≥(0:Int))) then
  bif (decide (a2≤(((List.length a1):Nat):Int))) then
   bif (decide (a3≥(0:Int))) then
    some (decide (a3≤(1048576:Int)))
   else
    some Bool.false
  else
   some Bool.false
 else
  some Bool.false
theorem journal_Valid_le (x:_):LeO (journal_Valid_F x) (journal_Valid x):=by
 unfold journal_Valid_F journal_Valid
 repeat' (first | (with_reducible first | exact LeO.refl _ | apply LeO.bind | apply LeO.join | apply LeO.out | apply LeO.cond | apply LeO.loop) | (intro p;first | (obtain ⟨a,q⟩:Prod _ _:=p;revert q) | skip) | dsimp only)
def billing_within_F:(Int×(Int×Int))→Option Bool:=fun (a1,(a2,a3)) =>
 bif (decide (a1≥a2)) then
  some (decide (a1≤a3))
 else
  some Bool.false
theorem billing_within_le (x:_):LeO (billing_within_F x) (billing_within x):=by
 unfold billing_within_F billing_within
 repeat' (first | (with_reducible first | exact LeO.refl _ | apply LeO.bind | apply LeO.join | apply LeO.out | apply LeO.cond | apply LeO.loop) | (intro p;first | (obtain ⟨a,q⟩:Prod _ _:=p;revert q) | skip) | dsimp only)
def billing_openCount_F:(List ((List UInt8)×((List UInt8)×((List UInt8)×(Int×(Int×(Int×(Int×(Int×(Int×Bool))))))))))→Option Int:=fun a1 =>
 joinO (loopF (fun v2 =>
 bif (decide (v2<(((List.length a1):Nat):Int))) then
 bif (decide (((0:Int)≤v2)∧(v2<(((List.length a1):Nat):Int)))) then
 bindO a1[(Int.toNat v2)]? fun x3 =>
 bif (decide (x3.2.2.2.2.2.2.1=(0:Int))) then
 some (Sum.inl (Go.IntKind.wrap .i64 (v2+(1:Int))))
 else
 outO (some (Sum.inl v2))
 else none
 else
 outO (some (Sum.inl v2))) 1000 (0:Int)) fun v5 =>
 some v5
theorem billing_openCount_le (x:_):LeO (billing_openCount_F x) (billing_openCount x):=by
 unfold billing_openCount_F billing_openCount
 repeat' (first | (with_reducible first | exact LeO.refl _ | apply LeO.bind | apply LeO.join | apply LeO.out | apply LeO.cond | apply LeO.loop) | (intro p;first | (obtain ⟨a,q⟩:Prod _ _:=p;revert q) | skip) | dsimp only)
def rating_within_F:(Int×(Int×Int))→Option Bool:=fun (a1,(a2,a3)) =>
 bif (decide (a1≥a2)) then
  some (decide (a1≤a3))
 else
  some Bool.false
theorem rating_within_le (x:_):LeO (rating_within_F x) (rating_within x):=by
 unfold rating_within_F rating_within
 repeat' (first | (with_reducible first | exact LeO.refl _ | apply LeO.bind | apply LeO.join | apply LeO.out | apply LeO.cond | apply LeO.loop) | (intro p;first | (obtain ⟨a,q⟩:Prod _ _:=p;revert q) | skip) | dsimp only)
def rating_Seconds_F:(Int×Int)→Option Int:=fun (a1,a2) =>
 bindO (rating_within_F (a1,((0:Int),(281474976710656:Int)))) fun x3 =>
 bif (!x3) then
  some (0:Int)
 else
  bindO (rating_within_F (a2,(a1,(281474976710656:Int)))) fun x4 =>
  bif (!x4) then
   some (0:Int)
  else
   some (Go.IntKind.wrap .i64 (Int.tdiv (Go.IntKind.wrap .i64 ((Go.IntKind.wrap .i64 (a2-a1))+(999:Int))) (1000:Int)))
theorem rating_Seconds_le (x:_):LeO (rating_Seconds_F x) (rating_Seconds x):=by
 unfold rating_Seconds_F rating_Seconds
 repeat' (first | (with_reducible first | exact LeO.refl _ | apply LeO.bind | apply LeO.join | apply LeO.out | apply LeO.cond | apply LeO.loop) | (with_reducible exact rating_within_le _) | (intro p;first | (obtain ⟨a,q⟩:Prod _ _:=p;revert q) | skip) | dsimp only)
def billing_validBill_F:(((List UInt8)×((List UInt8)×((List UInt8)×(Int×(Int×(Int×(Int×(Int×(Int×Bool)))))))))×Int)→Option Bool:=fun ((a1,(a2,(a3,(a4,(a5,(a6,(a7,(a8,(a9,a10))))))))),a11) =>
 joinO (bindO (billing_within_F ((((List.length a1):Nat):Int),((1:Int),(200:Int)))) fun x12 =>
 bif (!x12) then
 outO (some Bool.false)
 else
 bif (decide ((((List.length a2):Nat):Int) > (200:Int))) then
 outO (some Bool.false)
 else
 bif (decide ((((List.length a3):Nat):Int) > (200:Int))) then
 outO (some Bool.false)
 else
 some (Sum.inl ())) fun _ =>
 joinO (bindO (billing_within_F (a4,((0:Int),a11))) fun x13 =>
 bif (!x13) then
 outO (some Bool.false)
 else
 bif (decide (a5≠(-1:Int))) then
 bindO (billing_within_F (a5,(a4,a11))) fun x14 =>
 bif (!x14) then
 outO (some Bool.false)
 else
 some (Sum.inl ())
 else
 some (Sum.inl ())) fun _ =>
 bindO (billing_within_F (a6,((maxA a4 a5),a11))) fun x15 =>
 bif (!x15) then
  some Bool.false
 else
  bif (decide (a7=(0:Int))) then
   bif (decide (a8=(0:Int))) then
    bif (decide (a9=(0:Int))) then
     some (!a10)
    else
     some Bool.false
   else
    some Bool.false
  else
   bif (decide (a5≠(-1:Int))) then
    bif (decide (a9≥(0:Int))) then
     bindO (rating_Seconds_F (a5,a6)) fun x16 =>
     some (decide (a8=x16))
    else
     some Bool.false
   else
    some Bool.false
theorem billing_validBill_le (x:_):LeO (billing_validBill_F x) (billing_validBill x):=by
 unfold billing_validBill_F billing_validBill
 repeat' (first | (with_reducible first | exact LeO.refl _ | apply LeO.bind | apply LeO.join | apply LeO.out | apply LeO.cond | apply LeO.loop) | (with_reducible exact billing_within_le _) | (with_reducible exact rating_Seconds_le _) | (intro p;first | (obtain ⟨a,q⟩:Prod _ _:=p;revert q) | skip) | dsimp only)
def billing_Valid_F:((List Int)×(Int×(Int×((List ((List UInt8)×((List UInt8)×((List UInt8)×(Int×(Int×(Int×(Int×(Int×(Int×Bool))))))))))×(Int×Int)))))→Option Bool:=fun (a1,(a2,(a3,(a4,(a5,a6))))) =>
 joinO (bindO (journal_Valid_F (a1,(a2,a3))) fun x7 =>
 bif (!x7) then
 outO (some Bool.false)
 else
 bindO (billing_within_F (a6,((0:Int),(1099511627776:Int)))) fun x8 =>
 bif (!x8) then
 outO (some Bool.false)
 else
 bindO (billing_within_F (a5,((0:Int),(1048576:Int)))) fun x9 =>
 bif (!x9) then
 outO (some Bool.false)
 else
 some (Sum.inl ())) fun _ =>
 bindO (billing_openCount_F a4) fun x10 =>
 bif (decide (x10 > (256:Int))) then
  some Bool.false
 else
  joinO (loopF (fun (v11,v12) =>
 bif (decide (v11<(((List.length a4):Nat):Int))) then
 bif (decide (((0:Int)≤v11)∧(v11<(((List.length a4):Nat):Int)))) then
 bindO a4[(Int.toNat v11)]? fun x13 =>
 bindO (billing_validBill_F ((x13.1,(x13.2.1,(x13.2.2.1,(x13.2.2.2.1,(x13.2.2.2.2.1,(x13.2.2.2.2.2.1,(x13.2.2.2.2.2.2.1,(x13.2.2.2.2.2.2.2.1,(x13.2.2.2.2.2.2.2.2.1,x13.2.2.2.2.2.2.2.2.2))))))))),a6)) fun x14 =>
 bif (!x14) then
 outO (outO (some Bool.false))
 else
 bif (decide (v11<x10)) then
 bif (decide (v11 > (0:Int))) then
 bindO (some (Go.IntKind.wrap .i64 (v11-(1:Int)))) fun x15 =>
 bif (decide (((0:Int)≤x15)∧(x15<(((List.length a4):Nat):Int)))) then
 bindO a4[(Int.toNat x15)]? fun x16 =>
 bif (!(Go.Op.bytesLess x16.1 x13.1)) then
 outO (outO (some Bool.false))
 else
 some (Sum.inl ((Go.IntKind.wrap .i64 (v11+(1:Int))),v12))
 else none
 else
 some (Sum.inl ((Go.IntKind.wrap .i64 (v11+(1:Int))),v12))
 else
 bindO (billing_within_F (x13.2.2.2.2.2.2.1,((Go.IntKind.wrap .i64 (v12+(1:Int))),a5))) fun x20 =>
 bif (!x20) then
 outO (outO (some Bool.false))
 else
 some (Sum.inl ((Go.IntKind.wrap .i64 (v11+(1:Int))),x13.2.2.2.2.2.2.1))
 else none
 else
 outO (some (Sum.inl ()))) 1000 ((0:Int),(0:Int))) fun _ =>
  some Bool.true
theorem billing_Valid_le (x:_):LeO (billing_Valid_F x) (billing_Valid x):=by
 unfold billing_Valid_F billing_Valid
 repeat' (first | (with_reducible first | exact LeO.refl _ | apply LeO.bind | apply LeO.join | apply LeO.out | apply LeO.cond | apply LeO.loop) | (with_reducible exact journal_Valid_le _) | (with_reducible exact billing_within_le _) | (with_reducible exact billing_openCount_le _) | (with_reducible exact billing_validBill_le _) | (intro p;first | (obtain ⟨a,q⟩:Prod _ _:=p;revert q) | skip) | dsimp only)
def billing_place_F:((List ((List UInt8)×((List UInt8)×((List UInt8)×(Int×(Int×(Int×(Int×(Int×(Int×Bool))))))))))×(List UInt8))→Option (Int×Bool):=fun (a1,a2) =>
 joinO (joinO (loopF (fun (v3,v4) =>
 bif (decide (v4<v3)) then
 bindO (some (Int.fdiv (Go.IntKind.wrap .u64 (Go.IntKind.wrap .i64 (v4+v3))) (2:Int))) fun x7 =>
 bif (decide (((0:Int)≤(Go.IntKind.wrap .i64 x7))∧((Go.IntKind.wrap .i64 x7)<(((List.length a1):Nat):Int)))) then
 bindO a1[(Int.toNat (Go.IntKind.wrap .i64 x7))]? fun x9 =>
 bif (!(!(Go.Op.bytesLess x9.1 a2))) then
 some (Sum.inl (v3,(Go.IntKind.wrap .i64 ((Go.IntKind.wrap .i64 x7)+(1:Int)))))
 else
 some (Sum.inl ((Go.IntKind.wrap .i64 x7),v4))
 else none
 else
 outO (some (Sum.inl v4))) 1000 ((((List.length a1):Nat):Int),(0:Int))) fun v11 =>
 some (Sum.inl v11)) fun v12 =>
 bif (decide (v12<(((List.length a1):Nat):Int))) then
  bif (decide (((0:Int)≤v12)∧(v12<(((List.length a1):Nat):Int)))) then
   bindO a1[(Int.toNat v12)]? fun x13 =>
   some (v12,(decide (x13.1=a2)))
  else none
 else
  some (v12,Bool.false)
theorem billing_place_le (x:_):LeO (billing_place_F x) (billing_place x):=by
 unfold billing_place_F billing_place
 repeat' (first | (with_reducible first | exact LeO.refl _ | apply LeO.bind | apply LeO.join | apply LeO.out | apply LeO.cond | apply LeO.loop) | (intro p;first | (obtain ⟨a,q⟩:Prod _ _:=p;revert q) | skip) | dsimp only)
def billing_find_F:(((List Int)×(Int×(Int×((List ((List UInt8)×((List UInt8)×((List UInt8)×(Int×(Int×(Int×(Int×(Int×(Int×Bool))))))))))×(Int×Int)))))×(List UInt8))→Option (Int×Bool):=fun ((a1,(a2,(a3,(a4,(a5,a6))))),a7) =>
 bindO (billing_openCount_F a4) fun x8 =>
 bif (decide (((0:Int)≤x8)∧(x8≤(((List.length a4):Nat):Int)))) then
  bindO (billing_place_F ((List.take (Int.toNat x8) a4),a7)) fun (x11,x12) =>
  some (x11,x12)
 else none
theorem billing_find_le (x:_):LeO (billing_find_F x) (billing_find x):=by
 unfold billing_find_F billing_find
 repeat' (first | (with_reducible first | exact LeO.refl _ | apply LeO.bind | apply LeO.join | apply LeO.out | apply LeO.cond | apply LeO.loop) | (with_reducible exact billing_openCount_le _) | (with_reducible exact billing_place_le _) | (intro p;first | (obtain ⟨a,q⟩:Prod _ _:=p;revert q) | skip) | dsimp only)
def billing_data_F:((List Int)×(List (List UInt8)))→Option (List Int):=fun (a1,a2) =>
 joinO (loopF (fun (v3,v4) =>
 bif (decide (v3<(((List.length a1):Nat):Int))) then
 joinO (bif (decide (((0:Int)≤v3)∧(v3<(((List.length a1):Nat):Int)))) then
 bindO a1[(Int.toNat v3)]? fun x5 =>
 bif (decide ((List.length v4)≤(List.length v4))) then
       loopF (fun (v6,v7) =>
 bif (decide (v6≥(0:Int))) then
 bif (decide ((0:Int)≤v6)) then
 bindO (some (Int.fdiv (Go.IntKind.wrap .u64 x5) ((2:Int) ^ (Min.min (Int.toNat v6) 64)))) fun x9 =>
 bif (decide ((List.length v7)≤(List.length v7))) then
 bif (decide (((List.length ((List.take (List.length v7) v7)++((Go.IntKind.wrap .u8 x9)::([]:List Int))))*1)≤140737488355328)) then
 bindO (some ((List.take (List.length v7) v7)++((Go.IntKind.wrap .u8 x9)::([]:List Int)))) fun x11 =>
 bif (decide ((List.length x11)≤(List.length x11))) then
 some (Sum.inl ((Go.IntKind.wrap .i64 (v6-(8:Int))),(List.take (List.length x11) x11)))
 else none
 else none
 else none
 else none
 else
 outO (bif (decide ((List.length v7)≤(List.length v7))) then
 some (Sum.inl (v6,((List.take (List.length v7) v7),x5)))
 else none)) 1000 ((56:Int),(List.take (List.length v4) v4))
 else none
 else none) fun (v13,(v14,v15)) =>
 bif (decide ((List.length v14)≤(List.length v14))) then
 some (Sum.inl ((Go.IntKind.wrap .i64 (v3+(1:Int))),(List.take (List.length v14) v14)))
 else none
 else
 outO (bif (decide ((List.length v4)≤(List.length v4))) then
 some (Sum.inl (List.take (List.length v4) v4))
 else none)) 1000 ((0:Int),([]:List Int))) fun v17 =>
 joinO (bif (decide ((List.length v17)≤(List.length v17))) then
  loopF (fun (v18,v19) =>
 bif (decide (v18<(((List.length a2):Nat):Int))) then
 bif (decide (((0:Int)≤v18)∧(v18<(((List.length a2):Nat):Int)))) then
 bindO a2[(Int.toNat v18)]? fun x20 =>
 bindO (some (Int.fdiv (((List.length x20):Nat):Int) (256:Int))) fun x21 =>
 bindO (some (Go.IntKind.wrap .u8 (((List.length x20):Nat):Int))) fun x23 =>
 bif (decide ((List.length v19)≤(List.length v19))) then
 bif (decide (((List.length ((List.take (List.length v19) v19)++((Go.IntKind.wrap .u8 x21)::(x23::([]:List Int)))))*1)≤140737488355328)) then
 bindO (some ((List.take (List.length v19) v19)++((Go.IntKind.wrap .u8 x21)::(x23::([]:List Int))))) fun x24 =>
 bif (decide ((List.length x24)≤(List.length x24))) then
 bif (decide (((List.length ((List.take (List.length x24) x24)++(List.map (fun (x25:UInt8)=>(((UInt8.toNat x25):Nat):Int)) x20)))*1)≤140737488355328)) then
 bindO (some ((List.take (List.length x24) x24)++(List.map (fun (x27:UInt8)=>(((UInt8.toNat x27):Nat):Int)) x20))) fun x26 =>
 bif (decide ((List.length x26)≤(List.length x26))) then
 some (Sum.inl ((Go.IntKind.wrap .i64 (v18+(1:Int))),(List.take (List.length x26) x26)))
 else none
 else none
 else none
 else none
 else none
 else none
 else
 outO (bif (decide ((List.length v19)≤(List.length v19))) then
 some (Sum.inl (List.take (List.length v19) v19))
 else none)) 1000 ((0:Int),(List.take (List.length v17) v17))
 else none) fun v29 =>
 bif (decide ((List.length v29)≤(List.length v29))) then
  some (List.take (List.length v29) v29)
 else none
theorem billing_data_le (x:_):LeO (billing_data_F x) (billing_data x):=by
 unfold billing_data_F billing_data
 repeat' (first | (with_reducible first | exact LeO.refl _ | apply LeO.bind | apply LeO.join | apply LeO.out | apply LeO.cond | apply LeO.loop) | (intro p;first | (obtain ⟨a,q⟩:Prod _ _:=p;revert q) | skip) | dsimp only)
def journal_Check_F:(List Int)→Option Int:=fun a1 =>
 joinO (loopF (fun (v2,v3) =>
 bif (decide (v2<(((List.length a1):Nat):Int))) then
 joinO (bif (decide (((0:Int)≤v2)∧(v2<(((List.length a1):Nat):Int)))) then
 bindO a1[(Int.toNat v2)]? fun x4 =>
  loopF (fun (v7,v8) =>
 bif (decide (v7<(8:Int))) then
 bindO (some (Go.IntKind.wrap .u32 (Int.tdiv v8 (2:Int)))) fun x10 =>
 bif (decide ((Go.IntKind.wrap .u32 (((BitVec.toNat ((BitVec.ofInt 32 v8) &&& (BitVec.ofInt 32 (1:Int)))):Nat):Int))=(1:Int))) then
 some (Sum.inl ((Go.IntKind.wrap .i64 (v7+(1:Int))),(Go.IntKind.wrap .u32 (((BitVec.toNat ((BitVec.ofInt 32 x10) ^^^ (BitVec.ofInt 32 (3988292384:Int)))):Nat):Int))))
 else
 some (Sum.inl ((Go.IntKind.wrap .i64 (v7+(1:Int))),x10))
 else
 outO (some (Sum.inl v8))) 1000 ((0:Int),(Go.IntKind.wrap .u32 (((BitVec.toNat ((BitVec.ofInt 32 v3) ^^^ (BitVec.ofInt 32 (Go.IntKind.wrap .u32 x4)))):Nat):Int)))
 else none) fun v14 =>
 some (Sum.inl ((Go.IntKind.wrap .i64 (v2+(1:Int))),v14))
 else
 outO (some (Sum.inl v3))) 1000 ((0:Int),(4294967295:Int))) fun v16 =>
 some (Go.IntKind.wrap .u32 (((BitVec.toNat ((BitVec.ofInt 32 (4294967295:Int)) ^^^ (BitVec.ofInt 32 v16))):Nat):Int))
theorem journal_Check_le (x:_):LeO (journal_Check_F x) (journal_Check x):=by
 unfold journal_Check_F journal_Check
 repeat' (first | (with_reducible first | exact LeO.refl _ | apply LeO.bind | apply LeO.join | apply LeO.out | apply LeO.cond | apply LeO.loop) | (intro p;first | (obtain ⟨a,q⟩:Prod _ _:=p;revert q) | skip) | dsimp only)
def journal_Encode_F:(Int×(Int×(List Int)))→Option ((List Int)×Int):=fun (a1,(a2,a3)) =>
 bif (decide (a1<(0:Int))) then
  some (([]:List Int),(3:Int))
 else
  bif (decide (a1 > (1048575:Int))) then
   some (([]:List Int),(3:Int))
  else
   bif (decide ((((List.length a3):Nat):Int) > (4096:Int))) then
    some (([]:List Int),(4:Int))
   else
    joinO (joinO (loopF (fun (v9,v10) =>
 bif (decide (v9<(5:Int))) then
 joinO (bif (decide (((0:Int)≤v9)∧(v9<(5:Int)))) then
 bindO (((167:Int),(1:Int))::(((Go.IntKind.wrap .u32 a2),(1:Int))::(((Go.IntKind.wrap .u32 a1),(4:Int))::(((Go.IntKind.wrap .u32 (((List.length a3):Nat):Int)),(2:Int))::(((Go.IntKind.wrap .u32 (Go.IntKind.wrap .i64 ((65535:Int)-(((List.length a3):Nat):Int)))),(2:Int))::([]:List (Int×Int)))))))[(Int.toNat v9)]? fun x11 =>
 bif (decide ((List.length v10)≤(List.length v10))) then
           loopF (fun (v13,v14) =>
 bif (decide (v13≥(0:Int))) then
 bindO (some (Go.IntKind.wrap .i64 ((8:Int)*v13))) fun x15 =>
 bif (decide ((0:Int)≤x15)) then
 bindO (some (Int.fdiv x11.1 ((2:Int) ^ (Min.min (Int.toNat x15) 32)))) fun x16 =>
 bif (decide ((List.length v14)≤(List.length v14))) then
 bif (decide (((List.length ((List.take (List.length v14) v14)++((Go.IntKind.wrap .u8 x16)::([]:List Int))))*1)≤140737488355328)) then
 bindO (some ((List.take (List.length v14) v14)++((Go.IntKind.wrap .u8 x16)::([]:List Int)))) fun x18 =>
 bif (decide ((List.length x18)≤(List.length x18))) then
 some (Sum.inl ((Go.IntKind.wrap .i64 (v13-(1:Int))),(List.take (List.length x18) x18)))
 else none
 else none
 else none
 else none
 else
 outO (bif (decide ((List.length v14)≤(List.length v14))) then
 some (Sum.inl (List.take (List.length v14) v14))
 else none)) 1000 ((Go.IntKind.wrap .i64 (x11.2-(1:Int))),(List.take (List.length v10) v10))
 else none
 else none) fun v20 =>
 bif (decide ((List.length v20)≤(List.length v20))) then
 some (Sum.inl ((Go.IntKind.wrap .i64 (v9+(1:Int))),(List.take (List.length v20) v20)))
 else none
 else
 outO (bif (decide ((List.length v10)≤(List.length v10))) then
 some (Sum.inl (List.take (List.length v10) v10))
 else none)) 1000 ((0:Int),([]:List Int))) fun v22 =>
 bif (decide ((List.length v22)≤(List.length v22))) then
 some (Sum.inl (List.take (List.length v22) v22))
 else none) fun v23 =>
    bif (decide ((List.length v23)≤(List.length v23))) then
     bif (decide (((List.length ((List.take (List.length v23) v23)++a3))*1)≤140737488355328)) then
      bindO (some ((List.take (List.length v23) v23)++a3)) fun x24 =>
      bif (decide ((List.length x24)≤(List.length x24))) then
       bindO (journal_Check_F (List.take (List.length x24) x24)) fun x25 =>
       joinO (joinO (bif (decide ((List.length x24)≤(List.length x24))) then
        loopF (fun (v26,v27) =>
 bif (decide (v26<(1:Int))) then
 joinO (bif (decide (((0:Int)≤v26)∧(v26<(1:Int)))) then
 bindO ((x25,(4:Int))::([]:List (Int×Int)))[(Int.toNat v26)]? fun x28 =>
 bif (decide ((List.length v27)≤(List.length v27))) then
         loopF (fun (v30,v31) =>
 bif (decide (v30≥(0:Int))) then
 bindO (some (Go.IntKind.wrap .i64 ((8:Int)*v30))) fun x32 =>
 bif (decide ((0:Int)≤x32)) then
 bindO (some (Int.fdiv x28.1 ((2:Int) ^ (Min.min (Int.toNat x32) 32)))) fun x33 =>
 bif (decide ((List.length v31)≤(List.length v31))) then
 bif (decide (((List.length ((List.take (List.length v31) v31)++((Go.IntKind.wrap .u8 x33)::([]:List Int))))*1)≤140737488355328)) then
 bindO (some ((List.take (List.length v31) v31)++((Go.IntKind.wrap .u8 x33)::([]:List Int)))) fun x35 =>
 bif (decide ((List.length x35)≤(List.length x35))) then
 some (Sum.inl ((Go.IntKind.wrap .i64 (v30-(1:Int))),(List.take (List.length x35) x35)))
 else none
 else none
 else none
 else none
 else
 outO (bif (decide ((List.length v31)≤(List.length v31))) then
 some (Sum.inl (List.take (List.length v31) v31))
 else none)) 1000 ((Go.IntKind.wrap .i64 (x28.2-(1:Int))),(List.take (List.length v27) v27))
 else none
 else none) fun v37 =>
 bif (decide ((List.length v37)≤(List.length v37))) then
 some (Sum.inl ((Go.IntKind.wrap .i64 (v26+(1:Int))),(List.take (List.length v37) v37)))
 else none
 else
 outO (bif (decide ((List.length v27)≤(List.length v27))) then
 some (Sum.inl (List.take (List.length v27) v27))
 else none)) 1000 ((0:Int),(List.take (List.length x24) x24))
 else none) fun v39 =>
 bif (decide ((List.length v39)≤(List.length v39))) then
 some (Sum.inl (List.take (List.length v39) v39))
 else none) fun v40 =>
       bif (decide ((List.length v40)≤(List.length v40))) then
        some ((List.take (List.length v40) v40),(0:Int))
       else none
      else none
     else none
    else none
theorem journal_Encode_le (x:_):LeO (journal_Encode_F x) (journal_Encode x):=by
 unfold journal_Encode_F journal_Encode
 repeat' (first | (with_reducible first | exact LeO.refl _ | apply LeO.bind | apply LeO.join | apply LeO.out | apply LeO.cond | apply LeO.loop) | (with_reducible exact journal_Check_le _) | (intro p;first | (obtain ⟨a,q⟩:Prod _ _:=p;revert q) | skip) | dsimp only)
def journal_joined_F:((List Int)×(List Int))→Option (List Int):=fun (a1,a2) =>
 bindO (some (Go.IntKind.wrap .i64 ((((List.length a1):Nat):Int)+(((List.length a2):Nat):Int)))) fun x3 =>
 bif (decide (((0:Int)≤x3)∧((x3≤x3)∧(((x3*(1:Int))≤(140737488355328:Int))∧(x3≤(9223372036854775807:Int)))))) then
  bif (decide ((Int.toNat x3)≤(List.length (List.replicate (Int.toNat x3) (0:Int))))) then
   bif (decide (((0:Int)≤(((List.length a1):Nat):Int))∧((((List.length a1):Nat):Int)≤(((Int.toNat x3):Nat):Int)))) then
    bif (decide (((Int.toNat (((List.length a1):Nat):Int))+((Int.toNat x3)-(Int.toNat (((List.length a1):Nat):Int))))≤(List.length (layL (List.replicate (Int.toNat x3) (0:Int)) 0 (List.take (Int.toNat x3) a1))))) then
     bif (decide ((Int.toNat x3)≤(List.length (layL (layL (List.replicate (Int.toNat x3) (0:Int)) 0 (List.take (Int.toNat x3) a1)) (Int.toNat (((List.length a1):Nat):Int)) (List.take ((Int.toNat x3)-(Int.toNat (((List.length a1):Nat):Int))) a2))))) then
      some (List.take (Int.toNat x3) (layL (layL (List.replicate (Int.toNat x3) (0:Int)) 0 (List.take (Int.toNat x3) a1)) (Int.toNat (((List.length a1):Nat):Int)) (List.take ((Int.toNat x3)-(Int.toNat (((List.length a1):Nat):Int))) a2)))
     else none
    else none
   else none
  else none
 else none
theorem journal_joined_le (x:_):LeO (journal_joined_F x) (journal_joined x):=by
 unfold journal_joined_F journal_joined
 repeat' (first | (with_reducible first | exact LeO.refl _ | apply LeO.bind | apply LeO.join | apply LeO.out | apply LeO.cond | apply LeO.loop) | (intro p;first | (obtain ⟨a,q⟩:Prod _ _:=p;revert q) | skip) | dsimp only)
def journal_Append_F:(((List Int)×(Int×Int))×(Int×(List Int)))→Option (((List Int)×(Int×Int))×Int):=fun ((a1,(a2,a3)),(a4,a5)) =>
 bindO (journal_Valid_F (a1,(a2,a3))) fun x6 =>
 bif (!x6) then
  some ((([]:List Int),((0:Int),(0:Int))),(2:Int))
 else
  bif (decide (a3≥(1048576:Int))) then
   some ((([]:List Int),((0:Int),(0:Int))),(10:Int))
  else
   bindO (journal_Encode_F (a3,(a4,a5))) fun (x8,x9) =>
   bif (decide (x9≠(0:Int))) then
    some ((([]:List Int),((0:Int),(0:Int))),x9)
   else
    bindO (journal_joined_F (a1,x8)) fun x10 =>
    some ((x10,(a2,(Go.IntKind.wrap .i64 (a3+(1:Int))))),(0:Int))
theorem journal_Append_le (x:_):LeO (journal_Append_F x) (journal_Append x):=by
 unfold journal_Append_F journal_Append
 repeat' (first | (with_reducible first | exact LeO.refl _ | apply LeO.bind | apply LeO.join | apply LeO.out | apply LeO.cond | apply LeO.loop) | (with_reducible exact journal_Valid_le _) | (with_reducible exact journal_Encode_le _) | (with_reducible exact journal_joined_le _) | (intro p;first | (obtain ⟨a,q⟩:Prod _ _:=p;revert q) | skip) | dsimp only)
def billing_write_F:(((List Int)×(Int×Int))×(Int×(List Int)))→Option (((List Int)×(Int×Int))×Int):=fun ((a1,(a2,a3)),(a4,a5)) =>
 bif (decide (a3≥(1048576:Int))) then
  some ((([]:List Int),((0:Int),(0:Int))),(10:Int))
 else
  bindO (journal_Append_F ((a1,(a2,a3)),(a4,a5))) fun ((x7,(x8,x9)),x10) =>
  some ((x7,(x8,x9)),x10)
theorem billing_write_le (x:_):LeO (billing_write_F x) (billing_write x):=by
 unfold billing_write_F billing_write
 repeat' (first | (with_reducible first | exact LeO.refl _ | apply LeO.bind | apply LeO.join | apply LeO.out | apply LeO.cond | apply LeO.loop) | (with_reducible exact journal_Append_le _) | (intro p;first | (obtain ⟨a,q⟩:Prod _ _:=p;revert q) | skip) | dsimp only)
def billing_begun_F:(Int×((List UInt8)×((List UInt8)×(List UInt8))))→Option ((List UInt8)×((List UInt8)×((List UInt8)×(Int×(Int×(Int×(Int×(Int×(Int×Bool))))))))):=fun (a1,(a2,(a3,a4))) =>
 some (a2,(a3,(a4,(a1,((-1:Int),(a1,((0:Int),((0:Int),((0:Int),Bool.false)))))))))
theorem billing_begun_le (x:_):LeO (billing_begun_F x) (billing_begun x):=by
 unfold billing_begun_F billing_begun
 repeat' (first | (with_reducible first | exact LeO.refl _ | apply LeO.bind | apply LeO.join | apply LeO.out | apply LeO.cond | apply LeO.loop) | (intro p;first | (obtain ⟨a,q⟩:Prod _ _:=p;revert q) | skip) | dsimp only)
def billing_Begin_F:(((List Int)×(Int×(Int×((List ((List UInt8)×((List UInt8)×((List UInt8)×(Int×(Int×(Int×(Int×(Int×(Int×Bool))))))))))×(Int×Int)))))×((List UInt8)×((List UInt8)×((List UInt8)×(Int×(Int×(Int×(Int×(Int×(Int×Bool))))))))))→Option (((List Int)×(Int×(Int×((List ((List UInt8)×((List UInt8)×((List UInt8)×(Int×(Int×(Int×(Int×(Int×(Int×Bool))))))))))×(Int×Int)))))×Int):=fun ((a1,(a2,(a3,(a4,(a5,a6))))),(a7,(a8,(a9,(a10,(a11,(a12,(a13,(a14,(a15,a16)))))))))) =>
 joinO (bindO (billing_Valid_F (a1,(a2,(a3,(a4,(a5,a6)))))) fun x17 =>
 bif (!x17) then
 outO (some ((([]:List Int),((0:Int),((0:Int),(([]:List ((List UInt8)×((List UInt8)×((List UInt8)×(Int×(Int×(Int×(Int×(Int×(Int×Bool)))))))))),((0:Int),(0:Int)))))),(2:Int)))
 else
 bindO (billing_within_F (a10,(a6,(1099511627776:Int)))) fun x18 =>
 bif (!x18) then
 outO (some ((([]:List Int),((0:Int),((0:Int),(([]:List ((List UInt8)×((List UInt8)×((List UInt8)×(Int×(Int×(Int×(Int×(Int×(Int×Bool)))))))))),((0:Int),(0:Int)))))),(2:Int)))
 else
 bindO (billing_within_F ((((List.length a7):Nat):Int),((1:Int),(200:Int)))) fun x19 =>
 bif (!x19) then
 outO (some ((([]:List Int),((0:Int),((0:Int),(([]:List ((List UInt8)×((List UInt8)×((List UInt8)×(Int×(Int×(Int×(Int×(Int×(Int×Bool)))))))))),((0:Int),(0:Int)))))),(2:Int)))
 else
 bif (decide ((((List.length a8):Nat):Int) > (200:Int))) then
 outO (some ((([]:List Int),((0:Int),((0:Int),(([]:List ((List UInt8)×((List UInt8)×((List UInt8)×(Int×(Int×(Int×(Int×(Int×(Int×Bool)))))))))),((0:Int),(0:Int)))))),(2:Int)))
 else
 bif (decide ((((List.length a9):Nat):Int) > (200:Int))) then
 outO (some ((([]:List Int),((0:Int),((0:Int),(([]:List ((List UInt8)×((List UInt8)×((List UInt8)×(Int×(Int×(Int×(Int×(Int×(Int×Bool)))))))))),((0:Int),(0:Int)))))),(2:Int)))
 else
 some (Sum.inl ())) fun _ =>
 bindO (billing_find_F ((a1,(a2,(a3,(a4,(a5,a6))))),a7)) fun (x21,x22) =>
 bif x22 then
  some ((([]:List Int),((0:Int),((0:Int),(([]:List ((List UInt8)×((List UInt8)×((List UInt8)×(Int×(Int×(Int×(Int×(Int×(Int×Bool)))))))))),((0:Int),(0:Int)))))),(7:Int))
 else
  bindO (billing_openCount_F a4) fun x23 =>
  bif (decide (x23≥(256:Int))) then
   some ((([]:List Int),((0:Int),((0:Int),(([]:List ((List UInt8)×((List UInt8)×((List UInt8)×(Int×(Int×(Int×(Int×(Int×(Int×Bool)))))))))),((0:Int),(0:Int)))))),(10:Int))
  else
   bindO (billing_data_F ((a10::([]:List Int)),(a7::(a8::(a9::([]:List (List UInt8))))))) fun x24 =>
   bindO (billing_write_F ((a1,(a2,a3)),((1:Int),x24))) fun ((x26,(x27,x28)),x29) =>
   bif (decide (x29≠(0:Int))) then
    some ((([]:List Int),((0:Int),((0:Int),(([]:List ((List UInt8)×((List UInt8)×((List UInt8)×(Int×(Int×(Int×(Int×(Int×(Int×Bool)))))))))),((0:Int),(0:Int)))))),x29)
   else
    bindO (cloneG a4) fun x30 =>
    bindO (billing_begun_F (a10,(a7,(a8,a9)))) fun (x32,(x33,(x34,(x35,(x36,(x37,(x38,(x39,(x40,x41))))))))) =>
    bif ((decide ((List.length x30)=(List.length x30)))&&Bool.true) then
     bindO (insG (x30,(x21,((x32,(x33,(x34,(x35,(x36,(x37,(x38,(x39,(x40,x41)))))))))::([]:List ((List UInt8)×((List UInt8)×((List UInt8)×(Int×(Int×(Int×(Int×(Int×(Int×Bool)))))))))))))) fun x42 =>
     bif (decide ((List.length x42)≤(List.length x42))) then
      some ((x26,(x27,(x28,((List.take (List.length x42) x42),(a5,a10))))),(0:Int))
     else none
    else none
theorem billing_Begin_le (x:_):LeO (billing_Begin_F x) (billing_Begin x):=by
 unfold billing_Begin_F billing_Begin
 repeat' (first | (with_reducible first | exact LeO.refl _ | apply LeO.bind | apply LeO.join | apply LeO.out | apply LeO.cond | apply LeO.loop) | (with_reducible exact billing_within_le _) | (with_reducible exact billing_openCount_le _) | (with_reducible exact billing_Valid_le _) | (with_reducible exact billing_find_le _) | (with_reducible exact billing_data_le _) | (with_reducible exact billing_write_le _) | (with_reducible exact billing_begun_le _) | (intro p;first | (obtain ⟨a,q⟩:Prod _ _:=p;revert q) | skip) | dsimp only)
def billing_touch_F:(((List Int)×(Int×(Int×((List ((List UInt8)×((List UInt8)×((List UInt8)×(Int×(Int×(Int×(Int×(Int×(Int×Bool))))))))))×(Int×Int)))))×(Int×((List UInt8)×Int)))→Option (((List Int)×(Int×(Int×((List ((List UInt8)×((List UInt8)×((List UInt8)×(Int×(Int×(Int×(Int×(Int×(Int×Bool))))))))))×(Int×Int)))))×Int):=fun ((a1,(a2,(a3,(a4,(a5,a6))))),(a7,(a8,a9))) =>
 bindO (billing_Valid_F (a1,(a2,(a3,(a4,(a5,a6)))))) fun x10 =>
 bif (!x10) then
  some ((([]:List Int),((0:Int),((0:Int),(([]:List ((List UInt8)×((List UInt8)×((List UInt8)×(Int×(Int×(Int×(Int×(Int×(Int×Bool)))))))))),((0:Int),(0:Int)))))),(2:Int))
 else
  bindO (billing_within_F (a9,(a6,(1099511627776:Int)))) fun x11 =>
  bif (!x11) then
   some ((([]:List Int),((0:Int),((0:Int),(([]:List ((List UInt8)×((List UInt8)×((List UInt8)×(Int×(Int×(Int×(Int×(Int×(Int×Bool)))))))))),((0:Int),(0:Int)))))),(2:Int))
  else
   bindO (billing_find_F ((a1,(a2,(a3,(a4,(a5,a6))))),a8)) fun (x13,x14) =>
   bif (!x14) then
    some ((([]:List Int),((0:Int),((0:Int),(([]:List ((List UInt8)×((List UInt8)×((List UInt8)×(Int×(Int×(Int×(Int×(Int×(Int×Bool)))))))))),((0:Int),(0:Int)))))),(8:Int))
   else
    bif (decide (a7=(2:Int))) then
     bif (decide (((0:Int)≤x13)∧(x13<(((List.length a4):Nat):Int)))) then
      bindO a4[(Int.toNat x13)]? fun x15 =>
      bif (decide (x15.2.2.2.2.1≠(-1:Int))) then
       some ((([]:List Int),((0:Int),((0:Int),(([]:List ((List UInt8)×((List UInt8)×((List UInt8)×(Int×(Int×(Int×(Int×(Int×(Int×Bool)))))))))),((0:Int),(0:Int)))))),(9:Int))
      else
       bindO (billing_data_F ((a9::([]:List Int)),(a8::([]:List (List UInt8))))) fun x16 =>
       bindO (billing_write_F ((a1,(a2,a3)),(a7,x16))) fun ((x18,(x19,x20)),x21) =>
       bif (decide (x21≠(0:Int))) then
        some ((([]:List Int),((0:Int),((0:Int),(([]:List ((List UInt8)×((List UInt8)×((List UInt8)×(Int×(Int×(Int×(Int×(Int×(Int×Bool)))))))))),((0:Int),(0:Int)))))),x21)
       else
        bindO (cloneG a4) fun x22 =>
        bif (decide (((0:Int)≤x13)∧(x13<(((List.length x22):Nat):Int)))) then
         bindO x22[(Int.toNat x13)]? fun x23 =>
         bif (decide (a7=(2:Int))) then
          bif (decide (((0:Int)≤x13)∧(x13<(((List.length x22):Nat):Int)))) then
           bindO (List.set x22 (Int.toNat x13) (x23.1,(x23.2.1,(x23.2.2.1,(x23.2.2.2.1,(x23.2.2.2.2.1,(a9,(x23.2.2.2.2.2.2.1,(x23.2.2.2.2.2.2.2.1,(x23.2.2.2.2.2.2.2.2.1,x23.2.2.2.2.2.2.2.2.2))))))))))[(Int.toNat x13)]? fun x24 =>
           bif (decide ((List.length x22)≤(List.length (List.set (List.set x22 (Int.toNat x13) (x23.1,(x23.2.1,(x23.2.2.1,(x23.2.2.2.1,(x23.2.2.2.2.1,(a9,(x23.2.2.2.2.2.2.1,(x23.2.2.2.2.2.2.2.1,(x23.2.2.2.2.2.2.2.2.1,x23.2.2.2.2.2.2.2.2.2)))))))))) (Int.toNat x13) (x24.1,(x24.2.1,(x24.2.2.1,(x24.2.2.2.1,(a9,(x24.2.2.2.2.2.1,(x24.2.2.2.2.2.2.1,(x24.2.2.2.2.2.2.2.1,(x24.2.2.2.2.2.2.2.2.1,x24.2.2.2.2.2.2.2.2.2))))))))))))) then
            some ((x18,(x19,(x20,((List.take (List.length x22) (List.set (List.set x22 (Int.toNat x13) (x23.1,(x23.2.1,(x23.2.2.1,(x23.2.2.2.1,(x23.2.2.2.2.1,(a9,(x23.2.2.2.2.2.2.1,(x23.2.2.2.2.2.2.2.1,(x23.2.2.2.2.2.2.2.2.1,x23.2.2.2.2.2.2.2.2.2)))))))))) (Int.toNat x13) (x24.1,(x24.2.1,(x24.2.2.1,(x24.2.2.2.1,(a9,(x24.2.2.2.2.2.1,(x24.2.2.2.2.2.2.1,(x24.2.2.2.2.2.2.2.1,(x24.2.2.2.2.2.2.2.2.1,x24.2.2.2.2.2.2.2.2.2))))))))))),(a5,a9))))),(0:Int))
           else none
          else none
         else
          bif (decide ((List.length x22)≤(List.length (List.set x22 (Int.toNat x13) (x23.1,(x23.2.1,(x23.2.2.1,(x23.2.2.2.1,(x23.2.2.2.2.1,(a9,(x23.2.2.2.2.2.2.1,(x23.2.2.2.2.2.2.2.1,(x23.2.2.2.2.2.2.2.2.1,x23.2.2.2.2.2.2.2.2.2))))))))))))) then
           some ((x18,(x19,(x20,((List.take (List.length x22) (List.set x22 (Int.toNat x13) (x23.1,(x23.2.1,(x23.2.2.1,(x23.2.2.2.1,(x23.2.2.2.2.1,(a9,(x23.2.2.2.2.2.2.1,(x23.2.2.2.2.2.2.2.1,(x23.2.2.2.2.2.2.2.2.1,x23.2.2.2.2.2.2.2.2.2))))))))))),(a5,a9))))),(0:Int))
          else none
        else none
     else none
    else
     bindO (billing_data_F ((a9::([]:List Int)),(a8::([]:List (List UInt8))))) fun x25 =>
     bindO (billing_write_F ((a1,(a2,a3)),(a7,x25))) fun ((x27,(x28,x29)),x30) =>
     bif (decide (x30≠(0:Int))) then
      some ((([]:List Int),((0:Int),((0:Int),(([]:List ((List UInt8)×((List UInt8)×((List UInt8)×(Int×(Int×(Int×(Int×(Int×(Int×Bool)))))))))),((0:Int),(0:Int)))))),x30)
     else
      bindO (cloneG a4) fun x31 =>
      bif (decide (((0:Int)≤x13)∧(x13<(((List.length x31):Nat):Int)))) then
       bindO x31[(Int.toNat x13)]? fun x32 =>
       bif (decide (a7=(2:Int))) then
        bif (decide (((0:Int)≤x13)∧(x13<(((List.length x31):Nat):Int)))) then
         bindO (List.set x31 (Int.toNat x13) (x32.1,(x32.2.1,(x32.2.2.1,(x32.2.2.2.1,(x32.2.2.2.2.1,(a9,(x32.2.2.2.2.2.2.1,(x32.2.2.2.2.2.2.2.1,(x32.2.2.2.2.2.2.2.2.1,x32.2.2.2.2.2.2.2.2.2))))))))))[(Int.toNat x13)]? fun x33 =>
         bif (decide ((List.length x31)≤(List.length (List.set (List.set x31 (Int.toNat x13) (x32.1,(x32.2.1,(x32.2.2.1,(x32.2.2.2.1,(x32.2.2.2.2.1,(a9,(x32.2.2.2.2.2.2.1,(x32.2.2.2.2.2.2.2.1,(x32.2.2.2.2.2.2.2.2.1,x32.2.2.2.2.2.2.2.2.2)))))))))) (Int.toNat x13) (x33.1,(x33.2.1,(x33.2.2.1,(x33.2.2.2.1,(a9,(x33.2.2.2.2.2.1,(x33.2.2.2.2.2.2.1,(x33.2.2.2.2.2.2.2.1,(x33.2.2.2.2.2.2.2.2.1,x33.2.2.2.2.2.2.2.2.2))))))))))))) then
          some ((x27,(x28,(x29,((List.take (List.length x31) (List.set (List.set x31 (Int.toNat x13) (x32.1,(x32.2.1,(x32.2.2.1,(x32.2.2.2.1,(x32.2.2.2.2.1,(a9,(x32.2.2.2.2.2.2.1,(x32.2.2.2.2.2.2.2.1,(x32.2.2.2.2.2.2.2.2.1,x32.2.2.2.2.2.2.2.2.2)))))))))) (Int.toNat x13) (x33.1,(x33.2.1,(x33.2.2.1,(x33.2.2.2.1,(a9,(x33.2.2.2.2.2.1,(x33.2.2.2.2.2.2.1,(x33.2.2.2.2.2.2.2.1,(x33.2.2.2.2.2.2.2.2.1,x33.2.2.2.2.2.2.2.2.2))))))))))),(a5,a9))))),(0:Int))
         else none
        else none
       else
        bif (decide ((List.length x31)≤(List.length (List.set x31 (Int.toNat x13) (x32.1,(x32.2.1,(x32.2.2.1,(x32.2.2.2.1,(x32.2.2.2.2.1,(a9,(x32.2.2.2.2.2.2.1,(x32.2.2.2.2.2.2.2.1,(x32.2.2.2.2.2.2.2.2.1,x32.2.2.2.2.2.2.2.2.2))))))))))))) then
         some ((x27,(x28,(x29,((List.take (List.length x31) (List.set x31 (Int.toNat x13) (x32.1,(x32.2.1,(x32.2.2.1,(x32.2.2.2.1,(x32.2.2.2.2.1,(a9,(x32.2.2.2.2.2.2.1,(x32.2.2.2.2.2.2.2.1,(x32.2.2.2.2.2.2.2.2.1,x32.2.2.2.2.2.2.2.2.2))))))))))),(a5,a9))))),(0:Int))
        else none
      else none
theorem billing_touch_le (x:_):LeO (billing_touch_F x) (billing_touch x):=by
 unfold billing_touch_F billing_touch
 repeat' (first | (with_reducible first | exact LeO.refl _ | apply LeO.bind | apply LeO.join | apply LeO.out | apply LeO.cond | apply LeO.loop) | (with_reducible exact billing_within_le _) | (with_reducible exact billing_Valid_le _) | (with_reducible exact billing_find_le _) | (with_reducible exact billing_data_le _) | (with_reducible exact billing_write_le _) | (intro p;first | (obtain ⟨a,q⟩:Prod _ _:=p;revert q) | skip) | dsimp only)
def billing_Answer_F:(((List Int)×(Int×(Int×((List ((List UInt8)×((List UInt8)×((List UInt8)×(Int×(Int×(Int×(Int×(Int×(Int×Bool))))))))))×(Int×Int)))))×((List UInt8)×Int))→Option (((List Int)×(Int×(Int×((List ((List UInt8)×((List UInt8)×((List UInt8)×(Int×(Int×(Int×(Int×(Int×(Int×Bool))))))))))×(Int×Int)))))×Int):=fun ((a1,(a2,(a3,(a4,(a5,a6))))),(a7,a8)) =>
 bindO (billing_touch_F ((a1,(a2,(a3,(a4,(a5,a6))))),((2:Int),(a7,a8)))) fun ((x10,(x11,(x12,(x13,(x14,x15))))),x16) =>
 some ((x10,(x11,(x12,(x13,(x14,x15))))),x16)
theorem billing_Answer_le (x:_):LeO (billing_Answer_F x) (billing_Answer x):=by
 unfold billing_Answer_F billing_Answer
 repeat' (first | (with_reducible first | exact LeO.refl _ | apply LeO.bind | apply LeO.join | apply LeO.out | apply LeO.cond | apply LeO.loop) | (with_reducible exact billing_touch_le _) | (intro p;first | (obtain ⟨a,q⟩:Prod _ _:=p;revert q) | skip) | dsimp only)
def dialtonelaw38_tariff_F:PUnit→Option ((List ((List UInt8)×(Int×(Int×(Int×(List ((Int×(Int×Int))×(Int×Int))))))))×Int):=fun _ =>
 some (((([]:List UInt8),((0:Int),((1:Int),((1:Int),((((127:Int),((0:Int),(1440:Int))),((1000:Int),(1000:Int)))::([]:List ((Int×(Int×Int))×(Int×Int))))))))::([]:List ((List UInt8)×(Int×(Int×(Int×(List ((Int×(Int×Int))×(Int×Int))))))))),(0:Int))
theorem dialtonelaw38_tariff_le (x:_):LeO (dialtonelaw38_tariff_F x) (dialtonelaw38_tariff x):=by
 unfold dialtonelaw38_tariff_F dialtonelaw38_tariff
 repeat' (first | (with_reducible first | exact LeO.refl _ | apply LeO.bind | apply LeO.join | apply LeO.out | apply LeO.cond | apply LeO.loop) | (intro p;first | (obtain ⟨a,q⟩:Prod _ _:=p;revert q) | skip) | dsimp only)
def rating_validBand_F:(Int×(Int×Int))→Option Bool:=fun (a1,(a2,a3)) =>
 bif (decide (a1≥(1:Int))) then
  bif (decide (a1≤(127:Int))) then
   bif (decide (a2≥(0:Int))) then
    bif (decide (a2<a3)) then
     some (decide (a3≤(1440:Int)))
    else
     some Bool.false
   else
    some Bool.false
  else
   some Bool.false
 else
  some Bool.false
theorem rating_validBand_le (x:_):LeO (rating_validBand_F x) (rating_validBand x):=by
 unfold rating_validBand_F rating_validBand
 repeat' (first | (with_reducible first | exact LeO.refl _ | apply LeO.bind | apply LeO.join | apply LeO.out | apply LeO.cond | apply LeO.loop) | (intro p;first | (obtain ⟨a,q⟩:Prod _ _:=p;revert q) | skip) | dsimp only)
def rating_validPrice_F:(Int×(Int×(Int×(Int×Int))))→Option Bool:=fun (a1,(a2,(a3,(a4,a5)))) =>
 bindO (rating_validBand_F (a1,(a2,a3))) fun x6 =>
 bif x6 then
  bif (decide (a4≥(0:Int))) then
   bif (decide (a4≤(1000000000:Int))) then
    bif (decide (a5≥(0:Int))) then
     some (decide (a5≤(1000000000:Int)))
    else
     some Bool.false
   else
    some Bool.false
  else
   some Bool.false
 else
  some Bool.false
theorem rating_validPrice_le (x:_):LeO (rating_validPrice_F x) (rating_validPrice x):=by
 unfold rating_validPrice_F rating_validPrice
 repeat' (first | (with_reducible first | exact LeO.refl _ | apply LeO.bind | apply LeO.join | apply LeO.out | apply LeO.cond | apply LeO.loop) | (with_reducible exact rating_validBand_le _) | (intro p;first | (obtain ⟨a,q⟩:Prod _ _:=p;revert q) | skip) | dsimp only)
def rating_validRate_F:((List UInt8)×(Int×(Int×(Int×(List ((Int×(Int×Int))×(Int×Int)))))))→Option Bool:=fun (a1,(a2,(a3,(a4,a5)))) =>
 joinO (bif (decide ((((List.length a1):Nat):Int) > (20:Int))) then
 outO (some Bool.false)
 else
 bif (decide (a2<(0:Int))) then
 outO (some Bool.false)
 else
 bif (decide (a2 > (1000000000:Int))) then
 outO (some Bool.false)
 else
 bindO (rating_within_F (a3,((1:Int),(3600:Int)))) fun x6 =>
 bif (!x6) then
 outO (some Bool.false)
 else
 bindO (rating_within_F (a4,((1:Int),(3600:Int)))) fun x7 =>
 bif (!x7) then
 outO (some Bool.false)
 else
 some (Sum.inl ())) fun _ =>
 joinO (loopF (fun v8 =>
 bif (decide (v8<(((List.length a1):Nat):Int))) then
 bif (decide (((0:Int)≤v8)∧(v8<(((List.length a1):Nat):Int)))) then
 bif (decide ((((UInt8.toNat (List.getD a1 (Int.toNat v8) (0:UInt8))):Nat):Int)<(48:Int))) then
 outO (outO (some Bool.false))
 else
 bif (decide (((0:Int)≤v8)∧(v8<(((List.length a1):Nat):Int)))) then
 bif (decide ((((UInt8.toNat (List.getD a1 (Int.toNat v8) (0:UInt8))):Nat):Int) > (57:Int))) then
 outO (outO (some Bool.false))
 else
 some (Sum.inl (Go.IntKind.wrap .i64 (v8+(1:Int))))
 else none
 else none
 else
 outO (some (Sum.inl ()))) 1000 (0:Int)) fun _ =>
 bif (decide ((((List.length a5):Nat):Int)<(1:Int))) then
  some Bool.false
 else
  bif (decide ((((List.length a5):Nat):Int) > (20:Int))) then
   some Bool.false
  else
   joinO (loopF (fun v10 =>
 bif (decide (v10<(((List.length a5):Nat):Int))) then
 bif (decide (((0:Int)≤v10)∧(v10<(((List.length a5):Nat):Int)))) then
 bindO a5[(Int.toNat v10)]? fun x11 =>
 bindO (rating_validPrice_F (x11.1.1,(x11.1.2.1,(x11.1.2.2,(x11.2.1,x11.2.2))))) fun x12 =>
 bif (!x12) then
 outO (outO (some Bool.false))
 else
 some (Sum.inl (Go.IntKind.wrap .i64 (v10+(1:Int))))
 else none
 else
 outO (some (Sum.inl ()))) 1000 (0:Int)) fun _ =>
   bindO (some (Go.IntKind.wrap .i64 ((((List.length a5):Nat):Int)-(1:Int)))) fun x14 =>
   bif (decide (((0:Int)≤x14)∧(x14<(((List.length a5):Nat):Int)))) then
    bindO a5[(Int.toNat x14)]? fun x15 =>
    some ((decide (x15.1.1=(127:Int)))&&((decide (x15.1.2.1=(0:Int)))&&(decide (x15.1.2.2=(1440:Int)))))
   else none
theorem rating_validRate_le (x:_):LeO (rating_validRate_F x) (rating_validRate x):=by
 unfold rating_validRate_F rating_validRate
 repeat' (first | (with_reducible first | exact LeO.refl _ | apply LeO.bind | apply LeO.join | apply LeO.out | apply LeO.cond | apply LeO.loop) | (with_reducible exact rating_within_le _) | (with_reducible exact rating_validPrice_le _) | (intro p;first | (obtain ⟨a,q⟩:Prod _ _:=p;revert q) | skip) | dsimp only)
def rating_Valid_F:((List ((List UInt8)×(Int×(Int×(Int×(List ((Int×(Int×Int))×(Int×Int))))))))×Int)→Option Bool:=fun (a1,a2) =>
 bif (decide ((((List.length a1):Nat):Int) > (1000:Int))) then
  some Bool.false
 else
  bindO (rating_within_F (a2,((0:Int),(3600:Int)))) fun x3 =>
  bif (!x3) then
   some Bool.false
  else
   joinO (loopF (fun (v4,v5) =>
 bif (decide (v4<(((List.length a1):Nat):Int))) then
 bif (decide (((0:Int)≤v4)∧(v4<(((List.length a1):Nat):Int)))) then
 bindO a1[(Int.toNat v4)]? fun x6 =>
 bif (decide (Membership.mem v5 x6.1)) then
 outO (outO (some Bool.false))
 else
 bindO (rating_validRate_F (x6.1,(x6.2.1,(x6.2.2.1,(x6.2.2.2.1,x6.2.2.2.2))))) fun x7 =>
 bif (!x7) then
 outO (outO (some Bool.false))
 else
 some (Sum.inl ((Go.IntKind.wrap .i64 (v4+(1:Int))),(addK v5 x6.1)))
 else none
 else
 outO (some (Sum.inl v5))) 1000 ((0:Int),([]:List (List UInt8)))) fun v9 =>
   some Bool.true
theorem rating_Valid_le (x:_):LeO (rating_Valid_F x) (rating_Valid x):=by
 unfold rating_Valid_F rating_Valid
 repeat' (first | (with_reducible first | exact LeO.refl _ | apply LeO.bind | apply LeO.join | apply LeO.out | apply LeO.cond | apply LeO.loop) | (with_reducible exact rating_within_le _) | (with_reducible exact rating_validRate_le _) | (intro p;first | (obtain ⟨a,q⟩:Prod _ _:=p;revert q) | skip) | dsimp only)
def billing_finish_F:(((List Int)×(Int×(Int×((List ((List UInt8)×((List UInt8)×((List UInt8)×(Int×(Int×(Int×(Int×(Int×(Int×Bool))))))))))×(Int×Int)))))×(((List ((List UInt8)×(Int×(Int×(Int×(List ((Int×(Int×Int))×(Int×Int))))))))×Int)×(Int×Int)))→Option (((List Int)×(Int×(Int×((List ((List UInt8)×((List UInt8)×((List UInt8)×(Int×(Int×(Int×(Int×(Int×(Int×Bool))))))))))×(Int×Int)))))×Int):=fun ((a1,(a2,(a3,(a4,(a5,a6))))),((a7,a8),(a9,a10))) =>
 bif (decide (((0:Int)≤a9)∧(a9<(((List.length a4):Nat):Int)))) then
  bindO a4[(Int.toNat a9)]? fun x11 =>
  bindO (cloneG a4) fun x12 =>
  bif (decide ((List.length x12)=(List.length x12))) then
   bindO (delG (x12,(a9,(Go.IntKind.wrap .i64 (a9+(1:Int)))))) fun x14 =>
   joinO (bif (decide (x11.2.2.2.2.1≠(-1:Int))) then
 bif (decide (a5≥(1048576:Int))) then
 outO (some ((([]:List Int),((0:Int),((0:Int),(([]:List ((List UInt8)×((List UInt8)×((List UInt8)×(Int×(Int×(Int×(Int×(Int×(Int×Bool)))))))))),((0:Int),(0:Int)))))),(10:Int)))
 else
 bindO (some (Go.IntKind.wrap .i64 (a5+(1:Int)))) fun x15 =>
 bindO (rating_Seconds_F (x11.2.2.2.2.1,a10)) fun x16 =>
 bindO (rating_Cost_F ((a7,a8),(x11.2.2.1,(x11.2.2.2.2.1,a10)))) fun (x18,x19) =>
 bif (decide (x19=(0:Int))) then
 bif (decide ((List.length x14)≤(List.length x14))) then
 bif (decide (((List.length ((List.take (List.length x14) x14)++((x11.1,(x11.2.1,(x11.2.2.1,(x11.2.2.2.1,(x11.2.2.2.2.1,(a10,(x15,(x16,(x18,x11.2.2.2.2.2.2.2.2.2)))))))))::([]:List ((List UInt8)×((List UInt8)×((List UInt8)×(Int×(Int×(Int×(Int×(Int×(Int×Bool)))))))))))))*104)≤140737488355328)) then
 bindO (some ((List.take (List.length x14) x14)++((x11.1,(x11.2.1,(x11.2.2.1,(x11.2.2.2.1,(x11.2.2.2.2.1,(a10,(x15,(x16,(x18,x11.2.2.2.2.2.2.2.2.2)))))))))::([]:List ((List UInt8)×((List UInt8)×((List UInt8)×(Int×(Int×(Int×(Int×(Int×(Int×Bool))))))))))))) fun x20 =>
 bif (decide ((List.length x20)≤(List.length x20))) then
 some (Sum.inl ((List.take (List.length x20) x20),((x11.1,(x11.2.1,(x11.2.2.1,(x11.2.2.2.1,(x11.2.2.2.2.1,(a10,(x15,(x16,(x18,x11.2.2.2.2.2.2.2.2.2))))))))),(a1,(a2,(a3,(a4,(x15,a6))))))))
 else none
 else none
 else none
 else
 bif (decide ((List.length x14)≤(List.length x14))) then
 bif (decide (((List.length ((List.take (List.length x14) x14)++((x11.1,(x11.2.1,(x11.2.2.1,(x11.2.2.2.1,(x11.2.2.2.2.1,(a10,(x15,(x16,(x11.2.2.2.2.2.2.2.2.1,x11.2.2.2.2.2.2.2.2.2)))))))))::([]:List ((List UInt8)×((List UInt8)×((List UInt8)×(Int×(Int×(Int×(Int×(Int×(Int×Bool)))))))))))))*104)≤140737488355328)) then
 bindO (some ((List.take (List.length x14) x14)++((x11.1,(x11.2.1,(x11.2.2.1,(x11.2.2.2.1,(x11.2.2.2.2.1,(a10,(x15,(x16,(x11.2.2.2.2.2.2.2.2.1,x11.2.2.2.2.2.2.2.2.2)))))))))::([]:List ((List UInt8)×((List UInt8)×((List UInt8)×(Int×(Int×(Int×(Int×(Int×(Int×Bool))))))))))))) fun x21 =>
 bif (decide ((List.length x21)≤(List.length x21))) then
 some (Sum.inl ((List.take (List.length x21) x21),((x11.1,(x11.2.1,(x11.2.2.1,(x11.2.2.2.1,(x11.2.2.2.2.1,(a10,(x15,(x16,(x11.2.2.2.2.2.2.2.2.1,x11.2.2.2.2.2.2.2.2.2))))))))),(a1,(a2,(a3,(a4,(x15,a6))))))))
 else none
 else none
 else none
 else
 bif (decide ((List.length x14)≤(List.length x14))) then
 some (Sum.inl ((List.take (List.length x14) x14),((x11.1,(x11.2.1,(x11.2.2.1,(x11.2.2.2.1,(x11.2.2.2.2.1,(a10,(x11.2.2.2.2.2.2.1,(x11.2.2.2.2.2.2.2.1,(x11.2.2.2.2.2.2.2.2.1,x11.2.2.2.2.2.2.2.2.2))))))))),(a1,(a2,(a3,(a4,(a5,a6))))))))
 else none) fun (v22,((v23,(v24,(v25,(v26,(v27,(v28,(v29,(v30,(v31,v32))))))))),(v33,(v34,(v35,(v36,(v37,v38))))))) =>
   bindO (billing_data_F ((a10::(v29::(v30::(v31::([]:List Int))))),(v23::([]:List (List UInt8))))) fun x39 =>
   bindO (billing_write_F ((v33,(v34,v35)),((4:Int),x39))) fun ((x41,(x42,x43)),x44) =>
   bif (decide (x44≠(0:Int))) then
    some ((([]:List Int),((0:Int),((0:Int),(([]:List ((List UInt8)×((List UInt8)×((List UInt8)×(Int×(Int×(Int×(Int×(Int×(Int×Bool)))))))))),((0:Int),(0:Int)))))),x44)
   else
    bif (decide ((List.length v22)≤(List.length v22))) then
     some ((x41,(x42,(x43,((List.take (List.length v22) v22),(v37,v38))))),(0:Int))
    else none
  else none
 else none
theorem billing_finish_le (x:_):LeO (billing_finish_F x) (billing_finish x):=by
 unfold billing_finish_F billing_finish
 repeat' (first | (with_reducible first | exact LeO.refl _ | apply LeO.bind | apply LeO.join | apply LeO.out | apply LeO.cond | apply LeO.loop) | (with_reducible exact rating_Cost_le _) | (with_reducible exact rating_Seconds_le _) | (with_reducible exact billing_data_le _) | (with_reducible exact billing_write_le _) | (intro p;first | (obtain ⟨a,q⟩:Prod _ _:=p;revert q) | skip) | dsimp only)
def billing_End_F:(((List Int)×(Int×(Int×((List ((List UInt8)×((List UInt8)×((List UInt8)×(Int×(Int×(Int×(Int×(Int×(Int×Bool))))))))))×(Int×Int)))))×(((List ((List UInt8)×(Int×(Int×(Int×(List ((Int×(Int×Int))×(Int×Int))))))))×Int)×((List UInt8)×Int)))→Option (((List Int)×(Int×(Int×((List ((List UInt8)×((List UInt8)×((List UInt8)×(Int×(Int×(Int×(Int×(Int×(Int×Bool))))))))))×(Int×Int)))))×Int):=fun ((a1,(a2,(a3,(a4,(a5,a6))))),((a7,a8),(a9,a10))) =>
 joinO (bindO (billing_Valid_F (a1,(a2,(a3,(a4,(a5,a6)))))) fun x11 =>
 bif (!x11) then
 outO (some ((([]:List Int),((0:Int),((0:Int),(([]:List ((List UInt8)×((List UInt8)×((List UInt8)×(Int×(Int×(Int×(Int×(Int×(Int×Bool)))))))))),((0:Int),(0:Int)))))),(2:Int)))
 else
 bindO (billing_within_F (a10,(a6,(1099511627776:Int)))) fun x12 =>
 bif (!x12) then
 outO (some ((([]:List Int),((0:Int),((0:Int),(([]:List ((List UInt8)×((List UInt8)×((List UInt8)×(Int×(Int×(Int×(Int×(Int×(Int×Bool)))))))))),((0:Int),(0:Int)))))),(2:Int)))
 else
 bindO (rating_Valid_F (a7,a8)) fun x13 =>
 bif (!x13) then
 outO (some ((([]:List Int),((0:Int),((0:Int),(([]:List ((List UInt8)×((List UInt8)×((List UInt8)×(Int×(Int×(Int×(Int×(Int×(Int×Bool)))))))))),((0:Int),(0:Int)))))),(2:Int)))
 else
 some (Sum.inl ())) fun _ =>
 bindO (billing_find_F ((a1,(a2,(a3,(a4,(a5,a6))))),a9)) fun (x15,x16) =>
 bif (!x16) then
  some ((([]:List Int),((0:Int),((0:Int),(([]:List ((List UInt8)×((List UInt8)×((List UInt8)×(Int×(Int×(Int×(Int×(Int×(Int×Bool)))))))))),((0:Int),(0:Int)))))),(8:Int))
 else
  bindO (billing_finish_F ((a1,(a2,(a3,(a4,(a5,a6))))),((a7,a8),(x15,a10)))) fun ((x18,(x19,(x20,(x21,(x22,x23))))),x24) =>
  bif (decide (x24≠(0:Int))) then
   some ((([]:List Int),((0:Int),((0:Int),(([]:List ((List UInt8)×((List UInt8)×((List UInt8)×(Int×(Int×(Int×(Int×(Int×(Int×Bool)))))))))),((0:Int),(0:Int)))))),x24)
  else
   some ((x18,(x19,(x20,(x21,(x22,a10))))),(0:Int))
theorem billing_End_le (x:_):LeO (billing_End_F x) (billing_End x):=by
 unfold billing_End_F billing_End
 repeat' (first | (with_reducible first | exact LeO.refl _ | apply LeO.bind | apply LeO.join | apply LeO.out | apply LeO.cond | apply LeO.loop) | (with_reducible exact billing_within_le _) | (with_reducible exact billing_Valid_le _) | (with_reducible exact billing_find_le _) | (with_reducible exact rating_Valid_le _) | (with_reducible exact billing_finish_le _) | (intro p;first | (obtain ⟨a,q⟩:Prod _ _:=p;revert q) | skip) | dsimp only)
def billing_Given_F:(((List Int)×(Int×(Int×((List ((List UInt8)×((List UInt8)×((List UInt8)×(Int×(Int×(Int×(Int×(Int×(Int×Bool))))))))))×(Int×Int)))))×Int)→Option (((List Int)×(Int×(Int×((List ((List UInt8)×((List UInt8)×((List UInt8)×(Int×(Int×(Int×(Int×(Int×(Int×Bool))))))))))×(Int×Int)))))×Int):=fun ((a1,(a2,(a3,(a4,(a5,a6))))),a7) =>
 bindO (billing_Valid_F (a1,(a2,(a3,(a4,(a5,a6)))))) fun x8 =>
 bif (!x8) then
  some ((([]:List Int),((0:Int),((0:Int),(([]:List ((List UInt8)×((List UInt8)×((List UInt8)×(Int×(Int×(Int×(Int×(Int×(Int×Bool)))))))))),((0:Int),(0:Int)))))),(2:Int))
 else
  joinO (joinO (loopF (fun v9 =>
 bif (decide (v9<(((List.length a4):Nat):Int))) then
 bif (decide (((0:Int)≤v9)∧(v9<(((List.length a4):Nat):Int)))) then
 bindO a4[(Int.toNat v9)]? fun x10 =>
 bif (decide (x10.2.2.2.2.2.2.1≠(0:Int))) then
 bif (decide (x10.2.2.2.2.2.2.1=a7)) then
 outO (outO (some (Sum.inl v9)))
 else
 some (Sum.inl (Go.IntKind.wrap .i64 (v9+(1:Int))))
 else
 some (Sum.inl (Go.IntKind.wrap .i64 (v9+(1:Int))))
 else none
 else
 outO (some (Sum.inl ()))) 1000 (0:Int)) fun _ =>
 some (Sum.inl (-1:Int))) fun v13 =>
  bif (decide (v13<(0:Int))) then
   some ((([]:List Int),((0:Int),((0:Int),(([]:List ((List UInt8)×((List UInt8)×((List UInt8)×(Int×(Int×(Int×(Int×(Int×(Int×Bool)))))))))),((0:Int),(0:Int)))))),(8:Int))
  else
   bif (decide (((0:Int)≤v13)∧(v13<(((List.length a4):Nat):Int)))) then
    bindO a4[(Int.toNat v13)]? fun x14 =>
    bif x14.2.2.2.2.2.2.2.2.2 then
     some ((([]:List Int),((0:Int),((0:Int),(([]:List ((List UInt8)×((List UInt8)×((List UInt8)×(Int×(Int×(Int×(Int×(Int×(Int×Bool)))))))))),((0:Int),(0:Int)))))),(9:Int))
    else
     bindO (billing_data_F ((a7::([]:List Int)),([]:List (List UInt8)))) fun x15 =>
     bindO (billing_write_F ((a1,(a2,a3)),((5:Int),x15))) fun ((x17,(x18,x19)),x20) =>
     bif (decide (x20≠(0:Int))) then
      some ((([]:List Int),((0:Int),((0:Int),(([]:List ((List UInt8)×((List UInt8)×((List UInt8)×(Int×(Int×(Int×(Int×(Int×(Int×Bool)))))))))),((0:Int),(0:Int)))))),x20)
     else
      bindO (cloneG a4) fun x21 =>
      bif (decide (((0:Int)≤v13)∧(v13<(((List.length x21):Nat):Int)))) then
       bindO x21[(Int.toNat v13)]? fun x22 =>
       bif (decide ((List.length x21)≤(List.length (List.set x21 (Int.toNat v13) (x22.1,(x22.2.1,(x22.2.2.1,(x22.2.2.2.1,(x22.2.2.2.2.1,(x22.2.2.2.2.2.1,(x22.2.2.2.2.2.2.1,(x22.2.2.2.2.2.2.2.1,(x22.2.2.2.2.2.2.2.2.1,Bool.true))))))))))))) then
        some ((x17,(x18,(x19,((List.take (List.length x21) (List.set x21 (Int.toNat v13) (x22.1,(x22.2.1,(x22.2.2.1,(x22.2.2.2.1,(x22.2.2.2.2.1,(x22.2.2.2.2.2.1,(x22.2.2.2.2.2.2.1,(x22.2.2.2.2.2.2.2.1,(x22.2.2.2.2.2.2.2.2.1,Bool.true))))))))))),(a5,a6))))),(0:Int))
       else none
      else none
   else none
theorem billing_Given_le (x:_):LeO (billing_Given_F x) (billing_Given x):=by
 unfold billing_Given_F billing_Given
 repeat' (first | (with_reducible first | exact LeO.refl _ | apply LeO.bind | apply LeO.join | apply LeO.out | apply LeO.cond | apply LeO.loop) | (with_reducible exact billing_Valid_le _) | (with_reducible exact billing_data_le _) | (with_reducible exact billing_write_le _) | (intro p;first | (obtain ⟨a,q⟩:Prod _ _:=p;revert q) | skip) | dsimp only)
def journal_Sync_F:((List Int)×(Int×Int))→Option ((List Int)×(Int×Int)):=fun (a1,(a2,a3)) =>
 bindO (journal_Valid_F (a1,(a2,a3))) fun x4 =>
 bif (!x4) then
  some (([]:List Int),((0:Int),(0:Int)))
 else
  bindO (journal_joined_F (a1,([]:List Int))) fun x5 =>
  some (x5,((((List.length a1):Nat):Int),a3))
theorem journal_Sync_le (x:_):LeO (journal_Sync_F x) (journal_Sync x):=by
 unfold journal_Sync_F journal_Sync
 repeat' (first | (with_reducible first | exact LeO.refl _ | apply LeO.bind | apply LeO.join | apply LeO.out | apply LeO.cond | apply LeO.loop) | (with_reducible exact journal_Valid_le _) | (with_reducible exact journal_joined_le _) | (intro p;first | (obtain ⟨a,q⟩:Prod _ _:=p;revert q) | skip) | dsimp only)
def billing_Sync_F:((List Int)×(Int×(Int×((List ((List UInt8)×((List UInt8)×((List UInt8)×(Int×(Int×(Int×(Int×(Int×(Int×Bool))))))))))×(Int×Int)))))→Option ((List Int)×(Int×(Int×((List ((List UInt8)×((List UInt8)×((List UInt8)×(Int×(Int×(Int×(Int×(Int×(Int×Bool))))))))))×(Int×Int))))):=fun (a1,(a2,(a3,(a4,(a5,a6))))) =>
 bindO (billing_Valid_F (a1,(a2,(a3,(a4,(a5,a6)))))) fun x7 =>
 bif (!x7) then
  some (([]:List Int),((0:Int),((0:Int),(([]:List ((List UInt8)×((List UInt8)×((List UInt8)×(Int×(Int×(Int×(Int×(Int×(Int×Bool)))))))))),((0:Int),(0:Int))))))
 else
  bindO (journal_Sync_F (a1,(a2,a3))) fun (x9,(x10,x11)) =>
  bindO (cloneG a4) fun x12 =>
  bif (decide ((List.length x12)≤(List.length x12))) then
   some (x9,(x10,(x11,((List.take (List.length x12) x12),(a5,a6)))))
  else none
theorem billing_Sync_le (x:_):LeO (billing_Sync_F x) (billing_Sync x):=by
 unfold billing_Sync_F billing_Sync
 repeat' (first | (with_reducible first | exact LeO.refl _ | apply LeO.bind | apply LeO.join | apply LeO.out | apply LeO.cond | apply LeO.loop) | (with_reducible exact billing_Valid_le _) | (with_reducible exact journal_Sync_le _) | (intro p;first | (obtain ⟨a,q⟩:Prod _ _:=p;revert q) | skip) | dsimp only)
def billing_Next_F:((List Int)×(Int×(Int×((List ((List UInt8)×((List UInt8)×((List UInt8)×(Int×(Int×(Int×(Int×(Int×(Int×Bool))))))))))×(Int×Int)))))→Option (((List UInt8)×((List UInt8)×((List UInt8)×(Int×(Int×(Int×(Int×(Int×(Int×Bool)))))))))×Bool):=fun (a1,(a2,(a3,(a4,(a5,a6))))) =>
 bindO (billing_Valid_F (a1,(a2,(a3,(a4,(a5,a6)))))) fun x7 =>
 bif (!x7) then
  some ((([]:List UInt8),(([]:List UInt8),(([]:List UInt8),((0:Int),((0:Int),((0:Int),((0:Int),((0:Int),((0:Int),Bool.false))))))))),Bool.false)
 else
  bif (decide (a2≠(((List.length a1):Nat):Int))) then
   some ((([]:List UInt8),(([]:List UInt8),(([]:List UInt8),((0:Int),((0:Int),((0:Int),((0:Int),((0:Int),((0:Int),Bool.false))))))))),Bool.false)
  else
   joinO (loopF (fun v8 =>
 bif (decide (v8<(((List.length a4):Nat):Int))) then
 bif (decide (((0:Int)≤v8)∧(v8<(((List.length a4):Nat):Int)))) then
 bindO a4[(Int.toNat v8)]? fun x9 =>
 bif (decide (x9.2.2.2.2.2.2.1≠(0:Int))) then
 bif (!x9.2.2.2.2.2.2.2.2.2) then
 outO (outO (some ((x9.1,(x9.2.1,(x9.2.2.1,(x9.2.2.2.1,(x9.2.2.2.2.1,(x9.2.2.2.2.2.1,(x9.2.2.2.2.2.2.1,(x9.2.2.2.2.2.2.2.1,(x9.2.2.2.2.2.2.2.2.1,x9.2.2.2.2.2.2.2.2.2))))))))),Bool.true)))
 else
 some (Sum.inl (Go.IntKind.wrap .i64 (v8+(1:Int))))
 else
 some (Sum.inl (Go.IntKind.wrap .i64 (v8+(1:Int))))
 else none
 else
 outO (some (Sum.inl ()))) 1000 (0:Int)) fun _ =>
   some ((([]:List UInt8),(([]:List UInt8),(([]:List UInt8),((0:Int),((0:Int),((0:Int),((0:Int),((0:Int),((0:Int),Bool.false))))))))),Bool.false)
theorem billing_Next_le (x:_):LeO (billing_Next_F x) (billing_Next x):=by
 unfold billing_Next_F billing_Next
 repeat' (first | (with_reducible first | exact LeO.refl _ | apply LeO.bind | apply LeO.join | apply LeO.out | apply LeO.cond | apply LeO.loop) | (with_reducible exact billing_Valid_le _) | (intro p;first | (obtain ⟨a,q⟩:Prod _ _:=p;revert q) | skip) | dsimp only)
def journal_begins_F:((List Int)×Int)→Option Bool:=fun (a1,a2) =>
 joinO (bif (decide ((((List.length a1):Nat):Int)≥(8:Int))) then
 bif (decide (((0:Int)≤(6:Int))∧((6:Int)<(((List.length a1):Nat):Int)))) then
 bindO a1[6]? fun x3 =>
 bif (decide (((0:Int)≤(7:Int))∧((7:Int)<(((List.length a1):Nat):Int)))) then
 bindO a1[7]? fun x6 =>
 bindO (some (Go.IntKind.wrap .i64 (((BitVec.toNat ((BitVec.ofInt 64 (Go.IntKind.wrap .i64 ((Go.IntKind.wrap .i64 x3)*(256:Int)))) ||| (BitVec.ofInt 64 (Go.IntKind.wrap .i64 x6)))):Nat):Int))) fun x8 =>
 bif (decide (x8 > (4096:Int))) then
 outO (some Bool.false)
 else
 some (Sum.inl x8)
 else none
 else none
 else
 some (Sum.inl (0:Int))) fun v9 =>
 joinO (joinO (loopF (fun (v14,v15) =>
 bif (decide (v14<(5:Int))) then
 joinO (bif (decide (((0:Int)≤v14)∧(v14<(5:Int)))) then
 bindO (((167:Int),(1:Int))::(((0:Int),(1:Int))::(((Go.IntKind.wrap .u32 a2),(4:Int))::(((Go.IntKind.wrap .u32 v9),(2:Int))::(((Go.IntKind.wrap .u32 (Go.IntKind.wrap .i64 ((65535:Int)-v9))),(2:Int))::([]:List (Int×Int)))))))[(Int.toNat v14)]? fun x16 =>
 bif (decide ((List.length v15)≤(List.length v15))) then
        loopF (fun (v18,v19) =>
 bif (decide (v18≥(0:Int))) then
 bindO (some (Go.IntKind.wrap .i64 ((8:Int)*v18))) fun x20 =>
 bif (decide ((0:Int)≤x20)) then
 bindO (some (Int.fdiv x16.1 ((2:Int) ^ (Min.min (Int.toNat x20) 32)))) fun x21 =>
 bif (decide ((List.length v19)≤(List.length v19))) then
 bif (decide (((List.length ((List.take (List.length v19) v19)++((Go.IntKind.wrap .u8 x21)::([]:List Int))))*1)≤140737488355328)) then
 bindO (some ((List.take (List.length v19) v19)++((Go.IntKind.wrap .u8 x21)::([]:List Int)))) fun x23 =>
 bif (decide ((List.length x23)≤(List.length x23))) then
 some (Sum.inl ((Go.IntKind.wrap .i64 (v18-(1:Int))),(List.take (List.length x23) x23)))
 else none
 else none
 else none
 else none
 else
 outO (bif (decide ((List.length v19)≤(List.length v19))) then
 some (Sum.inl (List.take (List.length v19) v19))
 else none)) 1000 ((Go.IntKind.wrap .i64 (x16.2-(1:Int))),(List.take (List.length v15) v15))
 else none
 else none) fun v25 =>
 bif (decide ((List.length v25)≤(List.length v25))) then
 some (Sum.inl ((Go.IntKind.wrap .i64 (v14+(1:Int))),(List.take (List.length v25) v25)))
 else none
 else
 outO (bif (decide ((List.length v15)≤(List.length v15))) then
 some (Sum.inl (List.take (List.length v15) v15))
 else none)) 1000 ((0:Int),([]:List Int))) fun v27 =>
 bif (decide ((List.length v27)≤(List.length v27))) then
 some (Sum.inl (List.take (List.length v27) v27))
 else none) fun v28 =>
 joinO (loopF (fun v29 =>
 bif (decide (v29<(minA (((List.length a1):Nat):Int) (10:Int)))) then
 joinO (bif (decide (v29=(1:Int))) then
 some (Sum.inl Bool.true)
 else
 bif (decide (v29=(6:Int))) then
 some (Sum.inl Bool.true)
 else
 some (Sum.inl (decide (v29=(7:Int))))) fun v30 =>
 bif v30 then
 some (Sum.inl (Go.IntKind.wrap .i64 (v29+(1:Int))))
 else
 joinO (bif (decide (v29=(8:Int))) then
 some (Sum.inl Bool.true)
 else
 some (Sum.inl (decide (v29=(9:Int))))) fun v32 =>
 bif v32 then
 bif (decide (((0:Int)≤v29)∧(v29<(((List.length a1):Nat):Int)))) then
 bindO a1[(Int.toNat v29)]? fun x33 =>
 bindO (some (Go.IntKind.wrap .i64 (v29-(2:Int)))) fun x34 =>
 bif (decide (((0:Int)≤x34)∧(x34<(((List.length a1):Nat):Int)))) then
 bindO a1[(Int.toNat x34)]? fun x35 =>
 bif (decide (x33≠(Go.IntKind.wrap .u8 ((255:Int)-x35)))) then
 outO (outO (some Bool.false))
 else
 some (Sum.inl (Go.IntKind.wrap .i64 (v29+(1:Int))))
 else none
 else none
 else
 bif (decide (((0:Int)≤v29)∧(v29<(((List.length a1):Nat):Int)))) then
 bindO a1[(Int.toNat v29)]? fun x38 =>
 bif (decide (((0:Int)≤v29)∧(v29<(((List.length v28):Nat):Int)))) then
 bindO v28[(Int.toNat v29)]? fun x39 =>
 bif (decide (x38≠x39)) then
 outO (outO (some Bool.false))
 else
 some (Sum.inl (Go.IntKind.wrap .i64 (v29+(1:Int))))
 else none
 else none
 else
 outO (some (Sum.inl ()))) 1000 (0:Int)) fun _ =>
 some Bool.true
theorem journal_begins_le (x:_):LeO (journal_begins_F x) (journal_begins x):=by
 unfold journal_begins_F journal_begins
 repeat' (first | (with_reducible first | exact LeO.refl _ | apply LeO.bind | apply LeO.join | apply LeO.out | apply LeO.cond | apply LeO.loop) | (intro p;first | (obtain ⟨a,q⟩:Prod _ _:=p;revert q) | skip) | dsimp only)
def journal_Scan_F:(List Int)→Option ((List (Int×(List Int)))×(Int×Int)):=fun a1 =>
 joinO (loopF (fun (v2,(v3,v4)) =>
 bif (decide (v4<(((List.length a1):Nat):Int))) then
 bif (decide ((((List.length v2):Nat):Int)≥(1048576:Int))) then
 outO (outO (bif (decide ((List.length v2)≤(List.length v2))) then
 some ((List.take (List.length v2) v2),(v4,(5:Int)))
 else none))
 else
 joinO (bif ((decide (((0:Int)≤(((List.length v3):Nat):Int))∧((((List.length v3):Nat):Int)≤(((List.length v3):Nat):Int))))&&((decide (((0:Int)≤(((List.length v3):Nat):Int))∧((((List.length v3):Nat):Int)≤(((Int.toNat (((List.length v3):Nat):Int)):Nat):Int))))&&(decide (((0:Int)≤v4)∧(v4≤(((Int.toNat (((List.length v3):Nat):Int)):Nat):Int)))))) then
 bindO (some (List.take ((Int.toNat (((List.length v3):Nat):Int))-(Int.toNat v4)) (List.drop (Int.toNat v4) v3))) fun x5 =>
 bindO (journal_begins_F (x5,(((List.length v2):Nat):Int))) fun x6 =>
 bif (!x6) then
 some (Sum.inl (((0:Int),([]:List Int)),((5:Int),(v3,v4))))
 else
 bif (decide ((((List.length x5):Nat):Int)<(10:Int))) then
 some (Sum.inl (((0:Int),([]:List Int)),((6:Int),(v3,v4))))
 else
 bif (decide (((0:Int)≤(6:Int))∧((6:Int)<(((List.length x5):Nat):Int)))) then
 bindO x5[6]? fun x7 =>
 bif (decide (((0:Int)≤(7:Int))∧((7:Int)<(((List.length x5):Nat):Int)))) then
 bindO x5[7]? fun x10 =>
 bindO (some (Go.IntKind.wrap .i64 (((BitVec.toNat ((BitVec.ofInt 64 (Go.IntKind.wrap .i64 ((Go.IntKind.wrap .i64 x7)*(256:Int)))) ||| (BitVec.ofInt 64 (Go.IntKind.wrap .i64 x10)))):Nat):Int))) fun x12 =>
 bindO (some (Go.IntKind.wrap .i64 ((10:Int)+x12))) fun x13 =>
 bif (decide ((((List.length x5):Nat):Int)<(Go.IntKind.wrap .i64 (x13+(4:Int))))) then
 some (Sum.inl (((0:Int),([]:List Int)),((6:Int),(v3,v4))))
 else
 bif ((decide (((0:Int)≤x13)∧(x13≤(((List.length x5):Nat):Int))))&&(decide (((0:Int)≤x13)∧(x13≤(((Int.toNat x13):Nat):Int))))) then
 bindO (journal_Check_F (List.take (Int.toNat x13) x5)) fun x16 =>
 joinO (joinO (loopF (fun (v17,v18) =>
 bif (decide (v17<(1:Int))) then
 joinO (bif (decide (((0:Int)≤v17)∧(v17<(1:Int)))) then
 bindO ((x16,(4:Int))::([]:List (Int×Int)))[(Int.toNat v17)]? fun x19 =>
 bif (decide ((List.length v18)≤(List.length v18))) then
                    loopF (fun (v21,v22) =>
 bif (decide (v21≥(0:Int))) then
 bindO (some (Go.IntKind.wrap .i64 ((8:Int)*v21))) fun x23 =>
 bif (decide ((0:Int)≤x23)) then
 bindO (some (Int.fdiv x19.1 ((2:Int) ^ (Min.min (Int.toNat x23) 32)))) fun x24 =>
 bif (decide ((List.length v22)≤(List.length v22))) then
 bif (decide (((List.length ((List.take (List.length v22) v22)++((Go.IntKind.wrap .u8 x24)::([]:List Int))))*1)≤140737488355328)) then
 bindO (some ((List.take (List.length v22) v22)++((Go.IntKind.wrap .u8 x24)::([]:List Int)))) fun x26 =>
 bif (decide ((List.length x26)≤(List.length x26))) then
 some (Sum.inl ((Go.IntKind.wrap .i64 (v21-(1:Int))),(List.take (List.length x26) x26)))
 else none
 else none
 else none
 else none
 else
 outO (bif (decide ((List.length v22)≤(List.length v22))) then
 some (Sum.inl (List.take (List.length v22) v22))
 else none)) 1000 ((Go.IntKind.wrap .i64 (x19.2-(1:Int))),(List.take (List.length v18) v18))
 else none
 else none) fun v28 =>
 bif (decide ((List.length v28)≤(List.length v28))) then
 some (Sum.inl ((Go.IntKind.wrap .i64 (v17+(1:Int))),(List.take (List.length v28) v28)))
 else none
 else
 outO (bif (decide ((List.length v18)≤(List.length v18))) then
 some (Sum.inl (List.take (List.length v18) v18))
 else none)) 1000 ((0:Int),([]:List Int))) fun v30 =>
 bif (decide ((List.length v30)≤(List.length v30))) then
 some (Sum.inl (List.take (List.length v30) v30))
 else none) fun v31 =>
 bif (decide ((List.length v31)≤(List.length v31))) then
 bindO (some (Go.IntKind.wrap .i64 (x13+(4:Int)))) fun x32 =>
 bindO (some (Go.IntKind.wrap .i64 (x13+(4:Int)))) fun x33 =>
 bif ((decide (((0:Int)≤x33)∧(x33≤(((List.length x5):Nat):Int))))&&((decide (((0:Int)≤x32)∧(x32≤(((Int.toNat x33):Nat):Int))))&&(decide (((0:Int)≤x13)∧(x13≤(((Int.toNat x32):Nat):Int)))))) then
 bif (decide ((bytesU (List.take (List.length v31) v31))≠(bytesU (List.take ((Int.toNat x32)-(Int.toNat x13)) (List.drop (Int.toNat x13) x5))))) then
 some (Sum.inl (((0:Int),([]:List Int)),((11:Int),(v3,v4))))
 else
 bif (decide (((0:Int)≤x12)∧((x12≤x12)∧(((x12*(1:Int))≤(140737488355328:Int))∧(x12≤(9223372036854775807:Int)))))) then
 bif ((decide (((0:Int)≤x13)∧(x13≤(((List.length x5):Nat):Int))))&&((decide (((0:Int)≤x13)∧(x13≤(((Int.toNat x13):Nat):Int))))&&(decide (((0:Int)≤(10:Int))∧((10:Int)≤(((Int.toNat x13):Nat):Int)))))) then
 bindO (some (List.take ((Int.toNat x13)-10) (List.drop 10 x5))) fun x35 =>
 bif (decide ((Int.toNat x12)≤(List.length (List.replicate (Int.toNat x12) (0:Int))))) then
 bif (decide (((0:Int)≤(1:Int))∧((1:Int)<(((List.length x5):Nat):Int)))) then
 bindO x5[1]? fun x38 =>
 bif (decide ((Int.toNat x12)≤(List.length (layL (List.replicate (Int.toNat x12) (0:Int)) 0 (List.take (Int.toNat x12) x35))))) then
 some (Sum.inl ((x38,(List.take (Int.toNat x12) (layL (List.replicate (Int.toNat x12) (0:Int)) 0 (List.take (Int.toNat x12) x35)))),((0:Int),(v3,(Go.IntKind.wrap .i64 (v4+(Go.IntKind.wrap .i64 (x13+(4:Int)))))))))
 else none
 else none
 else none
 else none
 else none
 else none
 else none
 else none
 else none
 else none
 else none) fun ((v39,v40),(v41,(v42,v43))) =>
 bif (decide (v41≠(0:Int))) then
 outO (outO (bif (decide ((List.length v2)≤(List.length v2))) then
 some ((List.take (List.length v2) v2),(v43,v41))
 else none))
 else
 bif (decide ((List.length v2)≤(List.length v2))) then
 bif (decide (((List.length ((List.take (List.length v2) v2)++((v39,v40)::([]:List (Int×(List Int))))))*32)≤140737488355328)) then
 bindO (some ((List.take (List.length v2) v2)++((v39,v40)::([]:List (Int×(List Int)))))) fun x44 =>
 bif (decide ((List.length x44)≤(List.length x44))) then
 some (Sum.inl ((List.take (List.length x44) x44),(v42,v43)))
 else none
 else none
 else none
 else
 outO (bif (decide ((List.length v2)≤(List.length v2))) then
 some (Sum.inl ((List.take (List.length v2) v2),(v3,v4)))
 else none)) 1000 (([]:List (Int×(List Int))),(a1,(0:Int)))) fun (v45,(v46,v47)) =>
 bif (decide ((List.length v45)≤(List.length v45))) then
  some ((List.take (List.length v45) v45),(v47,(0:Int)))
 else none
theorem journal_Scan_le (x:_):LeO (journal_Scan_F x) (journal_Scan x):=by
 unfold journal_Scan_F journal_Scan
 repeat' (first | (with_reducible first | exact LeO.refl _ | apply LeO.bind | apply LeO.join | apply LeO.out | apply LeO.cond | apply LeO.loop) | (with_reducible exact journal_Check_le _) | (with_reducible exact journal_begins_le _) | (intro p;first | (obtain ⟨a,q⟩:Prod _ _:=p;revert q) | skip) | dsimp only)
def journal_Recover_F:(List Int)→Option (((List Int)×(Int×Int))×(List (Int×(List Int)))):=fun a1 =>
 bindO (journal_Scan_F a1) fun (x3,(x4,x5)) =>
 bif ((decide (((0:Int)≤x4)∧(x4≤(((List.length a1):Nat):Int))))&&(decide (((0:Int)≤x4)∧(x4≤(((Int.toNat x4):Nat):Int))))) then
  bindO (journal_joined_F ((List.take (Int.toNat x4) a1),([]:List Int))) fun x7 =>
  some ((x7,(x4,(((List.length x3):Nat):Int))),x3)
 else none
theorem journal_Recover_le (x:_):LeO (journal_Recover_F x) (journal_Recover x):=by
 unfold journal_Recover_F journal_Recover
 repeat' (first | (with_reducible first | exact LeO.refl _ | apply LeO.bind | apply LeO.join | apply LeO.out | apply LeO.cond | apply LeO.loop) | (with_reducible exact journal_joined_le _) | (with_reducible exact journal_Scan_le _) | (intro p;first | (obtain ⟨a,q⟩:Prod _ _:=p;revert q) | skip) | dsimp only)
def cuTake_F:(Int×((List Int)×Bool))→Option ((List Int)×((List Int)×Bool)):=fun (a1,(a2,a3)) =>
 bif a3 then
  some (([]:List Int),(a2,Bool.true))
 else
  bif (decide ((((List.length a2):Nat):Int)<a1)) then
   some (([]:List Int),(a2,Bool.true))
  else
   bif (decide (((0:Int)≤a1)∧(a1≤(((List.length a2):Nat):Int)))) then
    bif (decide (((0:Int)≤a1)∧(a1≤(((List.length a2):Nat):Int)))) then
     some ((List.take (Int.toNat a1) a2),((List.drop (Int.toNat a1) a2),a3))
    else none
   else none
theorem cuTake_le (x:_):LeO (cuTake_F x) (cuTake x):=by
 unfold cuTake_F cuTake
 repeat' (first | (with_reducible first | exact LeO.refl _ | apply LeO.bind | apply LeO.join | apply LeO.out | apply LeO.cond | apply LeO.loop) | (intro p;first | (obtain ⟨a,q⟩:Prod _ _:=p;revert q) | skip) | dsimp only)
def cuNumber_F:((List Int)×Bool)→Option (Int×((List Int)×Bool)):=fun (a1,a2) =>
 joinO (bindO (cuTake_F ((8:Int),(a1,a2))) fun (x4,(x5,x6)) =>
  loopF (fun (v7,v8) =>
 bif (decide (v7<(((List.length x4):Nat):Int))) then
 bif (decide (((0:Int)≤v7)∧(v7<(((List.length x4):Nat):Int)))) then
 bindO x4[(Int.toNat v7)]? fun x9 =>
 some (Sum.inl ((Go.IntKind.wrap .i64 (v7+(1:Int))),(Go.IntKind.wrap .u64 (((BitVec.toNat ((BitVec.ofInt 64 (Go.IntKind.wrap .u64 (v8*(256:Int)))) ||| (BitVec.ofInt 64 (Go.IntKind.wrap .u64 x9)))):Nat):Int))))
 else none
 else
 outO (some (Sum.inl (v8,(x5,x6))))) 1000 ((0:Int),(0:Int))) fun (v14,(v15,v16)) =>
 some (v14,(v15,v16))
theorem cuNumber_le (x:_):LeO (cuNumber_F x) (cuNumber x):=by
 unfold cuNumber_F cuNumber
 repeat' (first | (with_reducible first | exact LeO.refl _ | apply LeO.bind | apply LeO.join | apply LeO.out | apply LeO.cond | apply LeO.loop) | (with_reducible exact cuTake_le _) | (intro p;first | (obtain ⟨a,q⟩:Prod _ _:=p;revert q) | skip) | dsimp only)
def cuEnded_F:((List Int)×Bool)→Option Bool:=fun (a1,a2) =>
 bif (!a2) then
  some (decide ((((List.length a1):Nat):Int)=(0:Int)))
 else
  some Bool.false
theorem cuEnded_le (x:_):LeO (cuEnded_F x) (cuEnded x):=by
 unfold cuEnded_F cuEnded
 repeat' (first | (with_reducible first | exact LeO.refl _ | apply LeO.bind | apply LeO.join | apply LeO.out | apply LeO.cond | apply LeO.loop) | (intro p;first | (obtain ⟨a,q⟩:Prod _ _:=p;revert q) | skip) | dsimp only)
def reGive_F:(Int×((List ((List UInt8)×((List UInt8)×((List UInt8)×(Int×(Int×(Int×(Int×(Int×(Int×Bool))))))))))×((List ((List UInt8)×((List UInt8)×((List UInt8)×(Int×(Int×(Int×(Int×(Int×(Int×Bool))))))))))×(Int×Int))))→Option (Bool×(List ((List UInt8)×((List UInt8)×((List UInt8)×(Int×(Int×(Int×(Int×(Int×(Int×Bool))))))))))):=fun (a1,(a2,(a3,(a4,a5)))) =>
 bif (decide (a1<(1:Int))) then
  some (Bool.false,a3)
 else
  bif (decide (a1 > (Go.IntKind.wrap .u64 (((List.length a3):Nat):Int)))) then
   some (Bool.false,a3)
  else
   bindO (some (Go.IntKind.wrap .u64 (a1-(1:Int)))) fun x7 =>
   bif (decide (((0:Int)≤x7)∧(x7<(((List.length a3):Nat):Int)))) then
    bindO a3[(Int.toNat x7)]? fun x8 =>
    bif x8.2.2.2.2.2.2.2.2.2 then
     some (Bool.false,a3)
    else
     bindO (some (Go.IntKind.wrap .u64 (a1-(1:Int)))) fun x9 =>
     bif (decide (((0:Int)≤x9)∧(x9<(((List.length a3):Nat):Int)))) then
      bindO a3[(Int.toNat x9)]? fun x10 =>
      some (Bool.true,(List.set a3 (Int.toNat x9) (x10.1,(x10.2.1,(x10.2.2.1,(x10.2.2.2.1,(x10.2.2.2.2.1,(x10.2.2.2.2.2.1,(x10.2.2.2.2.2.2.1,(x10.2.2.2.2.2.2.2.1,(x10.2.2.2.2.2.2.2.2.1,Bool.true)))))))))))
     else none
   else none
theorem reGive_le (x:_):LeO (reGive_F x) (reGive x):=by
 unfold reGive_F reGive
 repeat' (first | (with_reducible first | exact LeO.refl _ | apply LeO.bind | apply LeO.join | apply LeO.out | apply LeO.cond | apply LeO.loop) | (intro p;first | (obtain ⟨a,q⟩:Prod _ _:=p;revert q) | skip) | dsimp only)
def cuText_F:((List Int)×Bool)→Option ((List UInt8)×((List Int)×Bool)):=fun (a1,a2) =>
 joinO (bindO (cuTake_F ((2:Int),(a1,a2))) fun (x4,(x5,x6)) =>
  loopF (fun (v7,v8) =>
 bif (decide (v7<(((List.length x4):Nat):Int))) then
 bif (decide (((0:Int)≤v7)∧(v7<(((List.length x4):Nat):Int)))) then
 bindO x4[(Int.toNat v7)]? fun x9 =>
 some (Sum.inl ((Go.IntKind.wrap .i64 (v7+(1:Int))),(Go.IntKind.wrap .i64 (((BitVec.toNat ((BitVec.ofInt 64 (Go.IntKind.wrap .i64 (v8*(256:Int)))) ||| (BitVec.ofInt 64 (Go.IntKind.wrap .i64 x9)))):Nat):Int))))
 else none
 else
 outO (some (Sum.inl (v8,(x5,x6))))) 1000 ((0:Int),(0:Int))) fun (v14,(v15,v16)) =>
 bindO (cuTake_F (v14,(v15,v16))) fun (x18,(x19,x20)) =>
 some ((bytesU x18),(x19,x20))
theorem cuText_le (x:_):LeO (cuText_F x) (cuText x):=by
 unfold cuText_F cuText
 repeat' (first | (with_reducible first | exact LeO.refl _ | apply LeO.bind | apply LeO.join | apply LeO.out | apply LeO.cond | apply LeO.loop) | (with_reducible exact cuTake_le _) | (intro p;first | (obtain ⟨a,q⟩:Prod _ _:=p;revert q) | skip) | dsimp only)
def reBegin_F:(Int×((List UInt8)×((List UInt8)×((List UInt8)×((List ((List UInt8)×((List UInt8)×((List UInt8)×(Int×(Int×(Int×(Int×(Int×(Int×Bool))))))))))×((List ((List UInt8)×((List UInt8)×((List UInt8)×(Int×(Int×(Int×(Int×(Int×(Int×Bool))))))))))×(Int×Int)))))))→Option (Bool×((List ((List UInt8)×((List UInt8)×((List UInt8)×(Int×(Int×(Int×(Int×(Int×(Int×Bool))))))))))×((List ((List UInt8)×((List UInt8)×((List UInt8)×(Int×(Int×(Int×(Int×(Int×(Int×Bool))))))))))×(Int×Int)))):=fun (a1,(a2,(a3,(a4,(a5,(a6,(a7,a8))))))) =>
 bif (decide ((List.length a5)≤(List.length a5))) then
  bindO (billing_place_F ((List.take (List.length a5) a5),a2)) fun (x10,x11) =>
  joinO (bif x11 then
 outO (bif ((decide ((List.length a5)≤(List.length a5)))&&(decide ((List.length a6)≤(List.length a6)))) then
 some (Bool.false,((List.take (List.length a5) a5),((List.take (List.length a6) a6),(a7,a8))))
 else none)
 else
 bif (decide ((((List.length a5):Nat):Int)≥(256:Int))) then
 outO (bif ((decide ((List.length a5)≤(List.length a5)))&&(decide ((List.length a6)≤(List.length a6)))) then
 some (Bool.false,((List.take (List.length a5) a5),((List.take (List.length a6) a6),(a7,a8))))
 else none)
 else
 bindO (billing_within_F ((((List.length a2):Nat):Int),((1:Int),(200:Int)))) fun x12 =>
 bif (!x12) then
 outO (bif ((decide ((List.length a5)≤(List.length a5)))&&(decide ((List.length a6)≤(List.length a6)))) then
 some (Bool.false,((List.take (List.length a5) a5),((List.take (List.length a6) a6),(a7,a8))))
 else none)
 else
 bif (decide ((((List.length a3):Nat):Int) > (200:Int))) then
 outO (bif ((decide ((List.length a5)≤(List.length a5)))&&(decide ((List.length a6)≤(List.length a6)))) then
 some (Bool.false,((List.take (List.length a5) a5),((List.take (List.length a6) a6),(a7,a8))))
 else none)
 else
 bif (decide ((((List.length a4):Nat):Int) > (200:Int))) then
 outO (bif ((decide ((List.length a5)≤(List.length a5)))&&(decide ((List.length a6)≤(List.length a6)))) then
 some (Bool.false,((List.take (List.length a5) a5),((List.take (List.length a6) a6),(a7,a8))))
 else none)
 else
 some (Sum.inl ())) fun _ =>
  bindO (billing_begun_F (a1,(a2,(a3,a4)))) fun (x14,(x15,(x16,(x17,(x18,(x19,(x20,(x21,(x22,x23))))))))) =>
  bif ((decide ((List.length a5)=(List.length a5)))&&Bool.true) then
   bindO (insG (a5,(x10,((x14,(x15,(x16,(x17,(x18,(x19,(x20,(x21,(x22,x23)))))))))::([]:List ((List UInt8)×((List UInt8)×((List UInt8)×(Int×(Int×(Int×(Int×(Int×(Int×Bool)))))))))))))) fun x24 =>
   bif ((decide ((List.length x24)≤(List.length x24)))&&(decide ((List.length a6)≤(List.length a6)))) then
    some (Bool.true,((List.take (List.length x24) x24),((List.take (List.length a6) a6),(a7,a8))))
   else none
  else none
 else none
theorem reBegin_le (x:_):LeO (reBegin_F x) (reBegin x):=by
 unfold reBegin_F reBegin
 repeat' (first | (with_reducible first | exact LeO.refl _ | apply LeO.bind | apply LeO.join | apply LeO.out | apply LeO.cond | apply LeO.loop) | (with_reducible exact billing_within_le _) | (with_reducible exact billing_place_le _) | (with_reducible exact billing_begun_le _) | (intro p;first | (obtain ⟨a,q⟩:Prod _ _:=p;revert q) | skip) | dsimp only)
def reTouch_F:(Int×(Int×((List UInt8)×((List ((List UInt8)×((List UInt8)×((List UInt8)×(Int×(Int×(Int×(Int×(Int×(Int×Bool))))))))))×((List ((List UInt8)×((List UInt8)×((List UInt8)×(Int×(Int×(Int×(Int×(Int×(Int×Bool))))))))))×(Int×Int))))))→Option (Bool×(List ((List UInt8)×((List UInt8)×((List UInt8)×(Int×(Int×(Int×(Int×(Int×(Int×Bool))))))))))):=fun (a1,(a2,(a3,(a4,(a5,(a6,a7)))))) =>
 bif (decide ((List.length a4)≤(List.length a4))) then
  bindO (billing_place_F ((List.take (List.length a4) a4),a3)) fun (x9,x10) =>
  bif (!x10) then
   some (Bool.false,a4)
  else
   bif (decide (((0:Int)≤x9)∧(x9<(((List.length a4):Nat):Int)))) then
    bindO a4[(Int.toNat x9)]? fun x11 =>
    bif (decide (a2<x11.2.2.2.2.2.1)) then
     some (Bool.false,a4)
    else
     bif (decide (a1=(2:Int))) then
      bif (decide (((0:Int)≤x9)∧(x9<(((List.length a4):Nat):Int)))) then
       bindO a4[(Int.toNat x9)]? fun x12 =>
       bif (decide (x12.2.2.2.2.1≠(-1:Int))) then
        some (Bool.false,a4)
       else
        bif (decide (((0:Int)≤x9)∧(x9<(((List.length a4):Nat):Int)))) then
         bindO a4[(Int.toNat x9)]? fun x13 =>
         bif (decide (((0:Int)≤x9)∧(x9<(((List.length a4):Nat):Int)))) then
          bindO (List.set a4 (Int.toNat x9) (x13.1,(x13.2.1,(x13.2.2.1,(x13.2.2.2.1,(a2,(x13.2.2.2.2.2.1,(x13.2.2.2.2.2.2.1,(x13.2.2.2.2.2.2.2.1,(x13.2.2.2.2.2.2.2.2.1,x13.2.2.2.2.2.2.2.2.2))))))))))[(Int.toNat x9)]? fun x14 =>
          some (Bool.true,(List.set (List.set a4 (Int.toNat x9) (x13.1,(x13.2.1,(x13.2.2.1,(x13.2.2.2.1,(a2,(x13.2.2.2.2.2.1,(x13.2.2.2.2.2.2.1,(x13.2.2.2.2.2.2.2.1,(x13.2.2.2.2.2.2.2.2.1,x13.2.2.2.2.2.2.2.2.2)))))))))) (Int.toNat x9) (x14.1,(x14.2.1,(x14.2.2.1,(x14.2.2.2.1,(x14.2.2.2.2.1,(a2,(x14.2.2.2.2.2.2.1,(x14.2.2.2.2.2.2.2.1,(x14.2.2.2.2.2.2.2.2.1,x14.2.2.2.2.2.2.2.2.2)))))))))))
         else none
        else none
      else none
     else
      bif (decide (((0:Int)≤x9)∧(x9<(((List.length a4):Nat):Int)))) then
       bindO a4[(Int.toNat x9)]? fun x15 =>
       some (Bool.true,(List.set a4 (Int.toNat x9) (x15.1,(x15.2.1,(x15.2.2.1,(x15.2.2.2.1,(x15.2.2.2.2.1,(a2,(x15.2.2.2.2.2.2.1,(x15.2.2.2.2.2.2.2.1,(x15.2.2.2.2.2.2.2.2.1,x15.2.2.2.2.2.2.2.2.2)))))))))))
      else none
   else none
 else none
theorem reTouch_le (x:_):LeO (reTouch_F x) (reTouch x):=by
 unfold reTouch_F reTouch
 repeat' (first | (with_reducible first | exact LeO.refl _ | apply LeO.bind | apply LeO.join | apply LeO.out | apply LeO.cond | apply LeO.loop) | (with_reducible exact billing_place_le _) | (intro p;first | (obtain ⟨a,q⟩:Prod _ _:=p;revert q) | skip) | dsimp only)
def reEnd_F:(Int×(Int×(Int×(Int×((List UInt8)×((List ((List UInt8)×((List UInt8)×((List UInt8)×(Int×(Int×(Int×(Int×(Int×(Int×Bool))))))))))×((List ((List UInt8)×((List UInt8)×((List UInt8)×(Int×(Int×(Int×(Int×(Int×(Int×Bool))))))))))×(Int×Int))))))))→Option (Bool×((List ((List UInt8)×((List UInt8)×((List UInt8)×(Int×(Int×(Int×(Int×(Int×(Int×Bool))))))))))×((List ((List UInt8)×((List UInt8)×((List UInt8)×(Int×(Int×(Int×(Int×(Int×(Int×Bool))))))))))×(Int×Int)))):=fun (a1,(a2,(a3,(a4,(a5,(a6,(a7,(a8,a9)))))))) =>
 bif (decide ((List.length a6)≤(List.length a6))) then
  bindO (billing_place_F ((List.take (List.length a6) a6),a5)) fun (x11,x12) =>
  bif (!x12) then
   bif ((decide ((List.length a6)≤(List.length a6)))&&(decide ((List.length a7)≤(List.length a7)))) then
    some (Bool.false,((List.take (List.length a6) a6),((List.take (List.length a7) a7),(a8,a9))))
   else none
  else
   bif (decide (((0:Int)≤x11)∧(x11<(((List.length a6):Nat):Int)))) then
    bindO a6[(Int.toNat x11)]? fun x13 =>
    bif (decide (a1<x13.2.2.2.2.2.1)) then
     bif ((decide ((List.length a6)≤(List.length a6)))&&(decide ((List.length a7)≤(List.length a7)))) then
      some (Bool.false,((List.take (List.length a6) a6),((List.take (List.length a7) a7),(a8,a9))))
     else none
    else
     bif (decide (((0:Int)≤x11)∧(x11<(((List.length a6):Nat):Int)))) then
      bindO a6[(Int.toNat x11)]? fun x14 =>
      bif (decide (a2=(0:Int))) then
       joinO (bif (decide (a3≠(0:Int))) then
 outO (bif ((decide ((List.length a6)≤(List.length a6)))&&(decide ((List.length a7)≤(List.length a7)))) then
 some (Bool.false,((List.take (List.length a6) a6),((List.take (List.length a7) a7),(a8,a9))))
 else none)
 else
 bif (decide (a4≠(0:Int))) then
 outO (bif ((decide ((List.length a6)≤(List.length a6)))&&(decide ((List.length a7)≤(List.length a7)))) then
 some (Bool.false,((List.take (List.length a6) a6),((List.take (List.length a7) a7),(a8,a9))))
 else none)
 else
 bif (decide (x14.2.2.2.2.1≠(-1:Int))) then
 outO (bif ((decide ((List.length a6)≤(List.length a6)))&&(decide ((List.length a7)≤(List.length a7)))) then
 some (Bool.false,((List.take (List.length a6) a6),((List.take (List.length a7) a7),(a8,a9))))
 else none)
 else
 some (Sum.inl ())) fun _ =>
       bif (decide ((List.length a6)=(List.length a6))) then
        bindO (delG (a6,(x11,(Go.IntKind.wrap .i64 (x11+(1:Int)))))) fun x16 =>
        bif ((decide ((List.length x16)≤(List.length x16)))&&(decide ((List.length a7)≤(List.length a7)))) then
         some (Bool.true,((List.take (List.length x16) x16),((List.take (List.length a7) a7),(a8,a9))))
        else none
       else none
      else
       joinO (bif (decide (x14.2.2.2.2.1=(-1:Int))) then
 outO (bif ((decide ((List.length a6)≤(List.length a6)))&&(decide ((List.length a7)≤(List.length a7)))) then
 some (Bool.false,((List.take (List.length a6) a6),((List.take (List.length a7) a7),(a8,a9))))
 else none)
 else
 bif (decide (a2≠(Go.IntKind.wrap .u64 (Go.IntKind.wrap .i64 (a8+(1:Int)))))) then
 outO (bif ((decide ((List.length a6)≤(List.length a6)))&&(decide ((List.length a7)≤(List.length a7)))) then
 some (Bool.false,((List.take (List.length a6) a6),((List.take (List.length a7) a7),(a8,a9))))
 else none)
 else
 bif (decide (a2 > (1048576:Int))) then
 outO (bif ((decide ((List.length a6)≤(List.length a6)))&&(decide ((List.length a7)≤(List.length a7)))) then
 some (Bool.false,((List.take (List.length a6) a6),((List.take (List.length a7) a7),(a8,a9))))
 else none)
 else
 some (Sum.inl ())) fun _ =>
       bindO (rating_Seconds_F (x14.2.2.2.2.1,a1)) fun x19 =>
       bif (decide (a3≠(Go.IntKind.wrap .u64 x19))) then
        bif ((decide ((List.length a6)≤(List.length a6)))&&(decide ((List.length a7)≤(List.length a7)))) then
         some (Bool.false,((List.take (List.length a6) a6),((List.take (List.length a7) a7),(a8,a9))))
        else none
       else
        bif (decide ((Go.IntKind.wrap .i64 a4)<(0:Int))) then
         bif ((decide ((List.length a6)≤(List.length a6)))&&(decide ((List.length a7)≤(List.length a7)))) then
          some (Bool.false,((List.take (List.length a6) a6),((List.take (List.length a7) a7),(a8,a9))))
         else none
        else
         bindO (some (Go.IntKind.wrap .i64 (a8+(1:Int)))) fun x22 =>
         bif (decide ((List.length a6)=(List.length a6))) then
          bindO (delG (a6,(x11,(Go.IntKind.wrap .i64 (x11+(1:Int)))))) fun x24 =>
          bif (decide ((List.length a7)≤(List.length a7))) then
           bif (decide (((List.length ((List.take (List.length a7) a7)++((x14.1,(x14.2.1,(x14.2.2.1,(x14.2.2.2.1,(x14.2.2.2.2.1,(a1,(x22,(x19,((Go.IntKind.wrap .i64 a4),x14.2.2.2.2.2.2.2.2.2)))))))))::([]:List ((List UInt8)×((List UInt8)×((List UInt8)×(Int×(Int×(Int×(Int×(Int×(Int×Bool)))))))))))))*104)≤140737488355328)) then
            bindO (some ((List.take (List.length a7) a7)++((x14.1,(x14.2.1,(x14.2.2.1,(x14.2.2.2.1,(x14.2.2.2.2.1,(a1,(x22,(x19,((Go.IntKind.wrap .i64 a4),x14.2.2.2.2.2.2.2.2.2)))))))))::([]:List ((List UInt8)×((List UInt8)×((List UInt8)×(Int×(Int×(Int×(Int×(Int×(Int×Bool))))))))))))) fun x25 =>
            bif ((decide ((List.length x24)≤(List.length x24)))&&(decide ((List.length x25)≤(List.length x25)))) then
             some (Bool.true,((List.take (List.length x24) x24),((List.take (List.length x25) x25),(x22,a9))))
            else none
           else none
          else none
         else none
     else none
   else none
 else none
theorem reEnd_le (x:_):LeO (reEnd_F x) (reEnd x):=by
 unfold reEnd_F reEnd
 repeat' (first | (with_reducible first | exact LeO.refl _ | apply LeO.bind | apply LeO.join | apply LeO.out | apply LeO.cond | apply LeO.loop) | (with_reducible exact rating_Seconds_le _) | (with_reducible exact billing_place_le _) | (intro p;first | (obtain ⟨a,q⟩:Prod _ _:=p;revert q) | skip) | dsimp only)
def reApply_F:((Int×(List Int))×((List ((List UInt8)×((List UInt8)×((List UInt8)×(Int×(Int×(Int×(Int×(Int×(Int×Bool))))))))))×((List ((List UInt8)×((List UInt8)×((List UInt8)×(Int×(Int×(Int×(Int×(Int×(Int×Bool))))))))))×(Int×Int))))→Option (Bool×((List ((List UInt8)×((List UInt8)×((List UInt8)×(Int×(Int×(Int×(Int×(Int×(Int×Bool))))))))))×((List ((List UInt8)×((List UInt8)×((List UInt8)×(Int×(Int×(Int×(Int×(Int×(Int×Bool))))))))))×(Int×Int)))):=fun ((a1,a2),(a3,(a4,(a5,a6)))) =>
 bindO (cuNumber_F (a2,Bool.false)) fun (x8,(x9,x10)) =>
 bif (decide (a1=(5:Int))) then
  bindO (cuEnded_F (x9,x10)) fun x11 =>
  bif x11 then
   bif ((decide ((List.length a3)=(List.length a3)))&&(decide ((List.length a4)=(List.length a4)))) then
    bindO (reGive_F (x8,(a3,(a4,(a5,a6))))) fun (x13,x14) =>
    bif ((decide ((List.length a3)≤(List.length a3)))&&(decide ((List.length a4)≤(List.length x14)))) then
     some (x13,((List.take (List.length a3) a3),((List.take (List.length a4) x14),(a5,a6))))
    else none
   else none
  else
   bif ((decide ((List.length a3)≤(List.length a3)))&&(decide ((List.length a4)≤(List.length a4)))) then
    some (Bool.false,((List.take (List.length a3) a3),((List.take (List.length a4) a4),(a5,a6))))
   else none
 else
  bif x10 then
   bif ((decide ((List.length a3)≤(List.length a3)))&&(decide ((List.length a4)≤(List.length a4)))) then
    some (Bool.false,((List.take (List.length a3) a3),((List.take (List.length a4) a4),(a5,a6))))
   else none
  else
   bif (decide (x8 > (1099511627776:Int))) then
    bif ((decide ((List.length a3)≤(List.length a3)))&&(decide ((List.length a4)≤(List.length a4)))) then
     some (Bool.false,((List.take (List.length a3) a3),((List.take (List.length a4) a4),(a5,a6))))
    else none
   else
    joinO (bif (decide (a1=(1:Int))) then
 bindO (cuText_F (x9,x10)) fun (x17,(x18,x19)) =>
 bindO (cuText_F (x18,x19)) fun (x21,(x22,x23)) =>
 bindO (cuText_F (x22,x23)) fun (x25,(x26,x27)) =>
 bindO (cuEnded_F (x26,x27)) fun x28 =>
 bif x28 then
 bif ((decide ((List.length a3)=(List.length a3)))&&(decide ((List.length a4)=(List.length a4)))) then
 bindO (reBegin_F ((Go.IntKind.wrap .i64 x8),(x17,(x21,(x25,(a3,(a4,(a5,a6)))))))) fun (x30,(x31,(x32,(x33,x34)))) =>
 bif ((decide ((List.length x31)≤(List.length x31)))&&(decide ((List.length x32)≤(List.length x32)))) then
 some (Sum.inl (x30,((x26,x27),((List.take (List.length x31) x31),((List.take (List.length x32) x32),(x33,x34))))))
 else none
 else none
 else
 bif ((decide ((List.length a3)≤(List.length a3)))&&(decide ((List.length a4)≤(List.length a4)))) then
 some (Sum.inl (Bool.false,((x26,x27),((List.take (List.length a3) a3),((List.take (List.length a4) a4),(a5,a6))))))
 else none
 else
 joinO (bif (decide (a1=(2:Int))) then
 some (Sum.inl Bool.true)
 else
 some (Sum.inl (decide (a1=(3:Int))))) fun v35 =>
 bif v35 then
 bindO (cuText_F (x9,x10)) fun (x37,(x38,x39)) =>
 bindO (cuEnded_F (x38,x39)) fun x40 =>
 bif x40 then
 bif ((decide ((List.length a3)=(List.length a3)))&&(decide ((List.length a4)=(List.length a4)))) then
 bindO (reTouch_F (a1,((Go.IntKind.wrap .i64 x8),(x37,(a3,(a4,(a5,a6))))))) fun (x42,x43) =>
 bif ((decide ((List.length a3)≤(List.length x43)))&&(decide ((List.length a4)≤(List.length a4)))) then
 some (Sum.inl (x42,((x38,x39),((List.take (List.length a3) x43),((List.take (List.length a4) a4),(a5,a6))))))
 else none
 else none
 else
 bif ((decide ((List.length a3)≤(List.length a3)))&&(decide ((List.length a4)≤(List.length a4)))) then
 some (Sum.inl (Bool.false,((x38,x39),((List.take (List.length a3) a3),((List.take (List.length a4) a4),(a5,a6))))))
 else none
 else
 bif (decide (a1=(4:Int))) then
 bindO (cuNumber_F (x9,x10)) fun (x45,(x46,x47)) =>
 bindO (cuNumber_F (x46,x47)) fun (x49,(x50,x51)) =>
 bindO (cuNumber_F (x50,x51)) fun (x53,(x54,x55)) =>
 bindO (cuText_F (x54,x55)) fun (x57,(x58,x59)) =>
 bindO (cuEnded_F (x58,x59)) fun x60 =>
 bif x60 then
 bif ((decide ((List.length a3)=(List.length a3)))&&(decide ((List.length a4)=(List.length a4)))) then
 bindO (reEnd_F ((Go.IntKind.wrap .i64 x8),(x45,(x49,(x53,(x57,(a3,(a4,(a5,a6))))))))) fun (x62,(x63,(x64,(x65,x66)))) =>
 bif ((decide ((List.length x63)≤(List.length x63)))&&(decide ((List.length x64)≤(List.length x64)))) then
 some (Sum.inl (x62,((x58,x59),((List.take (List.length x63) x63),((List.take (List.length x64) x64),(x65,x66))))))
 else none
 else none
 else
 bif ((decide ((List.length a3)≤(List.length a3)))&&(decide ((List.length a4)≤(List.length a4)))) then
 some (Sum.inl (Bool.false,((x58,x59),((List.take (List.length a3) a3),((List.take (List.length a4) a4),(a5,a6))))))
 else none
 else
 bif ((decide ((List.length a3)≤(List.length a3)))&&(decide ((List.length a4)≤(List.length a4)))) then
 some (Sum.inl (Bool.false,((x9,x10),((List.take (List.length a3) a3),((List.take (List.length a4) a4),(a5,a6))))))
 else none) fun (v67,((v68,v69),(v70,(v71,(v72,v73))))) =>
    bif v67 then
     bif ((decide ((List.length v70)≤(List.length v70)))&&(decide ((List.length v71)≤(List.length v71)))) then
      some (v67,((List.take (List.length v70) v70),((List.take (List.length v71) v71),(v72,(maxA v73 (Go.IntKind.wrap .i64 x8))))))
     else none
    else
     bif ((decide ((List.length v70)≤(List.length v70)))&&(decide ((List.length v71)≤(List.length v71)))) then
      some (v67,((List.take (List.length v70) v70),((List.take (List.length v71) v71),(v72,v73))))
     else none
theorem reApply_le (x:_):LeO (reApply_F x) (reApply x):=by
 unfold reApply_F reApply
 repeat' (first | (with_reducible first | exact LeO.refl _ | apply LeO.bind | apply LeO.join | apply LeO.out | apply LeO.cond | apply LeO.loop) | (with_reducible exact cuNumber_le _) | (with_reducible exact cuEnded_le _) | (with_reducible exact reGive_le _) | (with_reducible exact cuText_le _) | (with_reducible exact reBegin_le _) | (with_reducible exact reTouch_le _) | (with_reducible exact reEnd_le _) | (intro p;first | (obtain ⟨a,q⟩:Prod _ _:=p;revert q) | skip) | dsimp only)
def billing_Recover_F:((List Int)×(((List ((List UInt8)×(Int×(Int×(Int×(List ((Int×(Int×Int))×(Int×Int))))))))×Int)×Int))→Option (((List Int)×(Int×(Int×((List ((List UInt8)×((List UInt8)×((List UInt8)×(Int×(Int×(Int×(Int×(Int×(Int×Bool))))))))))×(Int×Int)))))×Int):=fun (a1,((a2,a3),a4)) =>
 bindO (rating_Valid_F (a2,a3)) fun x5 =>
 bif (!x5) then
  some ((([]:List Int),((0:Int),((0:Int),(([]:List ((List UInt8)×((List UInt8)×((List UInt8)×(Int×(Int×(Int×(Int×(Int×(Int×Bool)))))))))),((0:Int),(0:Int)))))),(2:Int))
 else
  bindO (billing_within_F (a4,((0:Int),(1099511627776:Int)))) fun x6 =>
  bif (!x6) then
   some ((([]:List Int),((0:Int),((0:Int),(([]:List ((List UInt8)×((List UInt8)×((List UInt8)×(Int×(Int×(Int×(Int×(Int×(Int×Bool)))))))))),((0:Int),(0:Int)))))),(2:Int))
  else
   bindO (journal_Recover_F a1) fun ((x8,(x9,x10)),x11) =>
   joinO (loopF (fun (v12,(v13,(v14,(v15,v16)))) =>
 bif (decide (v12<(((List.length x11):Nat):Int))) then
 bif (decide (((0:Int)≤v12)∧(v12<(((List.length x11):Nat):Int)))) then
 bindO x11[(Int.toNat v12)]? fun x17 =>
 bif ((decide ((List.length v13)=(List.length v13)))&&(decide ((List.length v14)=(List.length v14)))) then
 bindO (reApply_F ((x17.1,x17.2),(v13,(v14,(v15,v16))))) fun (x19,(x20,(x21,(x22,x23)))) =>
 bif (!x19) then
 outO (outO (some ((([]:List Int),((0:Int),((0:Int),(([]:List ((List UInt8)×((List UInt8)×((List UInt8)×(Int×(Int×(Int×(Int×(Int×(Int×Bool)))))))))),((0:Int),(0:Int)))))),(5:Int))))
 else
 bif ((decide ((List.length x20)≤(List.length x20)))&&(decide ((List.length x21)≤(List.length x21)))) then
 some (Sum.inl ((Go.IntKind.wrap .i64 (v12+(1:Int))),((List.take (List.length x20) x20),((List.take (List.length x21) x21),(x22,x23)))))
 else none
 else none
 else none
 else
 outO (bif ((decide ((List.length v13)≤(List.length v13)))&&(decide ((List.length v14)≤(List.length v14)))) then
 some (Sum.inl ((List.take (List.length v13) v13),((List.take (List.length v14) v14),(v15,v16))))
 else none)) 1000 ((0:Int),(([]:List ((List UInt8)×((List UInt8)×((List UInt8)×(Int×(Int×(Int×(Int×(Int×(Int×Bool)))))))))),(([]:List ((List UInt8)×((List UInt8)×((List UInt8)×(Int×(Int×(Int×(Int×(Int×(Int×Bool)))))))))),((0:Int),(0:Int)))))) fun (v25,(v26,(v27,v28))) =>
   bif (decide (a4<v28)) then
    some ((([]:List Int),((0:Int),((0:Int),(([]:List ((List UInt8)×((List UInt8)×((List UInt8)×(Int×(Int×(Int×(Int×(Int×(Int×Bool)))))))))),((0:Int),(0:Int)))))),(9:Int))
   else
    bif ((decide ((List.length v25)≤(List.length v25)))&&(decide ((List.length v26)≤(List.length v26)))) then
     joinO (joinO (loopF (fun (v29,v30) =>
 bif (decide (v29<(2:Int))) then
 bif (decide (((0:Int)≤v29)∧(v29<(2:Int)))) then
 bindO ((List.take (List.length v25) v25)::((List.take (List.length v26) v26)::([]:List (List ((List UInt8)×((List UInt8)×((List UInt8)×(Int×(Int×(Int×(Int×(Int×(Int×Bool)))))))))))))[(Int.toNat v29)]? fun x31 =>
 bindO (some (Go.IntKind.wrap .i64 (v30+(((List.length x31):Nat):Int)))) fun x32 =>
 bif (decide (x32<(0:Int))) then
 none
 else
 some (Sum.inl ((Go.IntKind.wrap .i64 (v29+(1:Int))),x32))
 else none
 else
 outO (some (Sum.inl v30))) 1000 ((0:Int),(0:Int))) fun v34 =>
 bindO (growG v34) fun x35 =>
 joinO (bif (decide ((List.length x35)≤(List.length x35))) then
      loopF (fun (v36,v37) =>
 bif (decide (v36<(2:Int))) then
 bif (decide (((0:Int)≤v36)∧(v36<(2:Int)))) then
 bindO ((List.take (List.length v25) v25)::((List.take (List.length v26) v26)::([]:List (List ((List UInt8)×((List UInt8)×((List UInt8)×(Int×(Int×(Int×(Int×(Int×(Int×Bool)))))))))))))[(Int.toNat v36)]? fun x38 =>
 bif (decide ((List.length v37)≤(List.length v37))) then
 bif (decide (((List.length ((List.take (List.length v37) v37)++x38))*104)≤140737488355328)) then
 bindO (some ((List.take (List.length v37) v37)++x38)) fun x39 =>
 bif (decide ((List.length x39)≤(List.length x39))) then
 some (Sum.inl ((Go.IntKind.wrap .i64 (v36+(1:Int))),(List.take (List.length x39) x39)))
 else none
 else none
 else none
 else none
 else
 outO (bif (decide ((List.length v37)≤(List.length v37))) then
 some (Sum.inl (List.take (List.length v37) v37))
 else none)) 1000 ((0:Int),(List.take (List.length x35) x35))
 else none) fun v41 =>
 bif (decide ((List.length v41)≤(List.length v41))) then
 some (Sum.inl (List.take (List.length v41) v41))
 else none) fun v42 =>
     joinO (bif (decide ((List.length v42)≤(List.length v42))) then
      loopF (fun (v43,(v44,(v45,(v46,(v47,(v48,v49)))))) =>
 bif (decide (v43<(((List.length v25):Nat):Int))) then
 bif (decide (((0:Int)≤(0:Int))∧((0:Int)<(((List.length v47):Nat):Int)))) then
 bindO v47[0]? fun x50 =>
 bindO (billing_finish_F ((v44,(v45,(v46,(v47,(v48,v49))))),((a2,a3),((0:Int),x50.2.2.2.2.2.1)))) fun ((x52,(x53,(x54,(x55,(x56,x57))))),x58) =>
 bif (decide (x58≠(0:Int))) then
 outO (outO (some ((([]:List Int),((0:Int),((0:Int),(([]:List ((List UInt8)×((List UInt8)×((List UInt8)×(Int×(Int×(Int×(Int×(Int×(Int×Bool)))))))))),((0:Int),(0:Int)))))),x58)))
 else
 some (Sum.inl ((Go.IntKind.wrap .i64 (v43+(1:Int))),(x52,(x53,(x54,(x55,(x56,x57)))))))
 else none
 else
 outO (some (Sum.inl (v44,(v45,(v46,(v47,(v48,v49)))))))) 1000 ((0:Int),(x8,(x9,(x10,((List.take (List.length v42) v42),(v27,a4))))))
 else none) fun (v60,(v61,(v62,(v63,(v64,v65))))) =>
     some ((v60,(v61,(v62,(v63,(v64,v65))))),(0:Int))
    else none
theorem billing_Recover_le (x:_):LeO (billing_Recover_F x) (billing_Recover x):=by
 unfold billing_Recover_F billing_Recover
 repeat' (first | (with_reducible first | exact LeO.refl _ | apply LeO.bind | apply LeO.join | apply LeO.out | apply LeO.cond | apply LeO.loop) | (with_reducible exact billing_within_le _) | (with_reducible exact rating_Valid_le _) | (with_reducible exact billing_finish_le _) | (with_reducible exact journal_Recover_le _) | (with_reducible exact reApply_le _) | (intro p;first | (obtain ⟨a,q⟩:Prod _ _:=p;revert q) | skip) | dsimp only)
def dialtonelaw38_BillingKnown_F:PUnit→Option Bool:=fun _ =>
 bindO (billing_Begin_F ((([]:List Int),((0:Int),((0:Int),(([]:List ((List UInt8)×((List UInt8)×((List UInt8)×(Int×(Int×(Int×(Int×(Int×(Int×Bool)))))))))),((0:Int),(0:Int)))))),(((99:UInt8)::([]:List UInt8)),(([]:List UInt8),(((52:UInt8)::((57:UInt8)::([]:List UInt8))),((5:Int),((0:Int),((0:Int),((0:Int),((0:Int),((0:Int),Bool.false))))))))))) fun ((x2,(x3,(x4,(x5,(x6,x7))))),x8) =>
 bindO (billing_Begin_F ((x2,(x3,(x4,(x5,(x6,x7))))),(((99:UInt8)::([]:List UInt8)),(([]:List UInt8),(([]:List UInt8),((5:Int),((0:Int),((0:Int),((0:Int),((0:Int),((0:Int),Bool.false))))))))))) fun ((x10,(x11,(x12,(x13,(x14,x15))))),x16) =>
 bindO (billing_Begin_F ((x2,(x3,(x4,(x5,(x6,x7))))),(((100:UInt8)::([]:List UInt8)),(([]:List UInt8),(([]:List UInt8),((4:Int),((0:Int),((0:Int),((0:Int),((0:Int),((0:Int),Bool.false))))))))))) fun ((x18,(x19,(x20,(x21,(x22,x23))))),x24) =>
 bindO (billing_Begin_F ((x2,(x3,(x4,(x5,(x6,x7))))),(([]:List UInt8),(([]:List UInt8),(([]:List UInt8),((5:Int),((0:Int),((0:Int),((0:Int),((0:Int),((0:Int),Bool.false))))))))))) fun ((x26,(x27,(x28,(x29,(x30,x31))))),x32) =>
 bindO (billing_Answer_F ((x2,(x3,(x4,(x5,(x6,x7))))),(((120:UInt8)::([]:List UInt8)),(5:Int)))) fun ((x34,(x35,(x36,(x37,(x38,x39))))),x40) =>
 bindO (billing_Answer_F ((x2,(x3,(x4,(x5,(x6,x7))))),(((99:UInt8)::([]:List UInt8)),(7:Int)))) fun ((x42,(x43,(x44,(x45,(x46,x47))))),x48) =>
 bindO (billing_Answer_F ((x42,(x43,(x44,(x45,(x46,x47))))),(((99:UInt8)::([]:List UInt8)),(8:Int)))) fun ((x50,(x51,(x52,(x53,(x54,x55))))),x56) =>
 joinO (bif (decide (x8=(0:Int))) then
 bif (decide (x16=(7:Int))) then
 bif (decide (x24=(2:Int))) then
 bif (decide (x32=(2:Int))) then
 bif (decide (x40=(8:Int))) then
 bif (decide (x48=(0:Int))) then
 some (Sum.inl (decide (x56=(9:Int))))
 else
 some (Sum.inl Bool.false)
 else
 some (Sum.inl Bool.false)
 else
 some (Sum.inl Bool.false)
 else
 some (Sum.inl Bool.false)
 else
 some (Sum.inl Bool.false)
 else
 some (Sum.inl Bool.false)) fun v57 =>
 bindO (dialtonelaw38_tariff_F ()) fun (x59,x60) =>
 bindO (billing_End_F ((x2,(x3,(x4,(x5,(x6,x7))))),((x59,x60),(((99:UInt8)::([]:List UInt8)),(9:Int))))) fun ((x62,(x63,(x64,(x65,(x66,x67))))),x68) =>
 bindO (dialtonelaw38_tariff_F ()) fun (x70,x71) =>
 bindO (billing_End_F ((x42,(x43,(x44,(x45,(x46,x47))))),((x70,x71),(((99:UInt8)::([]:List UInt8)),(1008:Int))))) fun ((x73,(x74,(x75,(x76,(x77,x78))))),x79) =>
 bindO (billing_End_F ((x42,(x43,(x44,(x45,(x46,x47))))),((([]:List ((List UInt8)×(Int×(Int×(Int×(List ((Int×(Int×Int))×(Int×Int)))))))),(-1:Int)),(((99:UInt8)::([]:List UInt8)),(9:Int))))) fun ((x81,(x82,(x83,(x84,(x85,x86))))),x87) =>
 joinO (bif (decide (x68=(0:Int))) then
 bif (decide ((((List.length x65):Nat):Int)=(0:Int))) then
 bif (decide (x66=(0:Int))) then
 bif (decide (x79=(0:Int))) then
 bif (decide ((((List.length x76):Nat):Int)=(1:Int))) then
 bif (decide (((0:Int)≤(0:Int))∧((0:Int)<(((List.length x76):Nat):Int)))) then
 bindO x76[0]? fun x88 =>
 bif (decide (x88.2.2.2.2.2.2.2.1=(2:Int))) then
 bif (decide (((0:Int)≤(0:Int))∧((0:Int)<(((List.length x76):Nat):Int)))) then
 bindO x76[0]? fun x89 =>
 bif (decide (x89.2.2.2.2.2.2.2.2.1=(2000:Int))) then
 bif (decide (x77=(1:Int))) then
 some (Sum.inl (decide (x87=(2:Int))))
 else
 some (Sum.inl Bool.false)
 else
 some (Sum.inl Bool.false)
 else none
 else
 some (Sum.inl Bool.false)
 else none
 else
 some (Sum.inl Bool.false)
 else
 some (Sum.inl Bool.false)
 else
 some (Sum.inl Bool.false)
 else
 some (Sum.inl Bool.false)
 else
 some (Sum.inl Bool.false)) fun v90 =>
 bindO (billing_Given_F ((x73,(x74,(x75,(x76,(x77,x78))))),(2:Int))) fun ((x92,(x93,(x94,(x95,(x96,x97))))),x98) =>
 bindO (billing_Given_F ((x73,(x74,(x75,(x76,(x77,x78))))),(1:Int))) fun ((x100,(x101,(x102,(x103,(x104,x105))))),x106) =>
 bindO (billing_Given_F ((x100,(x101,(x102,(x103,(x104,x105))))),(1:Int))) fun ((x108,(x109,(x110,(x111,(x112,x113))))),x114) =>
 bindO (billing_Sync_F (x100,(x101,(x102,(x103,(x104,x105)))))) fun (x116,(x117,(x118,(x119,(x120,x121))))) =>
 bindO (billing_Next_F (x116,(x117,(x118,(x119,(x120,x121)))))) fun ((x123,(x124,(x125,(x126,(x127,(x128,(x129,(x130,(x131,x132))))))))),x133) =>
 joinO (bif (decide (x98=(8:Int))) then
 bif (decide (x106=(0:Int))) then
 bif (decide (x114=(9:Int))) then
 bif (!x133) then
 bindO (billing_Valid_F (x100,(x101,(x102,(x103,(x104,x105)))))) fun x134 =>
 bif x134 then
 bindO (billing_Valid_F (([]:List Int),((0:Int),((0:Int),(([]:List ((List UInt8)×((List UInt8)×((List UInt8)×(Int×(Int×(Int×(Int×(Int×(Int×Bool)))))))))),((-1:Int),(0:Int))))))) fun x135 =>
 bif (!x135) then
 bindO (billing_Sync_F (([]:List Int),((0:Int),((0:Int),(([]:List ((List UInt8)×((List UInt8)×((List UInt8)×(Int×(Int×(Int×(Int×(Int×(Int×Bool)))))))))),((-1:Int),(0:Int))))))) fun (x137,(x138,(x139,(x140,(x141,x142))))) =>
 some (Sum.inl (decide ((((List.length x140):Nat):Int)=(0:Int))))
 else
 some (Sum.inl Bool.false)
 else
 some (Sum.inl Bool.false)
 else
 some (Sum.inl Bool.false)
 else
 some (Sum.inl Bool.false)
 else
 some (Sum.inl Bool.false)
 else
 some (Sum.inl Bool.false)) fun v143 =>
 bindO (dialtonelaw38_tariff_F ()) fun (x145,x146) =>
 bindO (billing_Recover_F (x42,((x145,x146),(100:Int)))) fun ((x148,(x149,(x150,(x151,(x152,x153))))),x154) =>
 bindO (dialtonelaw38_tariff_F ()) fun (x156,x157) =>
 bindO (billing_Recover_F (x42,((x156,x157),(6:Int)))) fun ((x159,(x160,(x161,(x162,(x163,x164))))),x165) =>
 bindO (dialtonelaw38_tariff_F ()) fun (x167,x168) =>
 bindO (billing_Recover_F (x42,((x167,x168),(-1:Int)))) fun ((x170,(x171,(x172,(x173,(x174,x175))))),x176) =>
 bindO (journal_Append_F ((([]:List Int),((0:Int),(0:Int))),((9:Int),([]:List Int)))) fun ((x178,(x179,x180)),x181) =>
 bindO (dialtonelaw38_tariff_F ()) fun (x183,x184) =>
 bindO (billing_Recover_F (x178,((x183,x184),(1:Int)))) fun ((x186,(x187,(x188,(x189,(x190,x191))))),x192) =>
 bindO (dialtonelaw38_tariff_F ()) fun (x194,x195) =>
 bindO (billing_Recover_F (([]:List Int),((x194,x195),(3:Int)))) fun ((x197,(x198,(x199,(x200,(x201,x202))))),x203) =>
 joinO (bif (decide (x154=(0:Int))) then
 bif (decide ((((List.length x151):Nat):Int)=(1:Int))) then
 bif (decide (((0:Int)≤(0:Int))∧((0:Int)<(((List.length x151):Nat):Int)))) then
 bindO x151[0]? fun x204 =>
 bif (decide (x204.2.2.2.2.2.1=(7:Int))) then
 bif (decide (((0:Int)≤(0:Int))∧((0:Int)<(((List.length x151):Nat):Int)))) then
 bindO x151[0]? fun x205 =>
 bif (decide (x205.2.2.2.2.2.2.2.1=(0:Int))) then
 bif (decide (x153=(100:Int))) then
 bif (decide (x165=(9:Int))) then
 bif (decide (x176=(2:Int))) then
 bif (decide (x192=(5:Int))) then
 bif (decide (x203=(0:Int))) then
 some (Sum.inl (decide (x202=(3:Int))))
 else
 some (Sum.inl Bool.false)
 else
 some (Sum.inl Bool.false)
 else
 some (Sum.inl Bool.false)
 else
 some (Sum.inl Bool.false)
 else
 some (Sum.inl Bool.false)
 else
 some (Sum.inl Bool.false)
 else none
 else
 some (Sum.inl Bool.false)
 else none
 else
 some (Sum.inl Bool.false)
 else
 some (Sum.inl Bool.false)) fun v206 =>
 bindO (dialtonelaw38_awake_F ()) fun x207 =>
 bif x207 then
  bif v57 then
   bif v90 then
    bif v143 then
     some v206
    else
     some Bool.false
   else
    some Bool.false
  else
   some Bool.false
 else
  some Bool.false
theorem dialtonelaw38_BillingKnown_le (x:_):LeO (dialtonelaw38_BillingKnown_F x) (dialtonelaw38_BillingKnown x):=by
 unfold dialtonelaw38_BillingKnown_F dialtonelaw38_BillingKnown
 repeat' (first | (with_reducible first | exact LeO.refl _ | apply LeO.bind | apply LeO.join | apply LeO.out | apply LeO.cond | apply LeO.loop) | (with_reducible exact dialtonelaw38_awake_le _) | (with_reducible exact billing_Valid_le _) | (with_reducible exact journal_Append_le _) | (with_reducible exact billing_Begin_le _) | (with_reducible exact billing_Answer_le _) | (with_reducible exact dialtonelaw38_tariff_le _) | (with_reducible exact billing_End_le _) | (with_reducible exact billing_Given_le _) | (with_reducible exact billing_Sync_le _) | (with_reducible exact billing_Next_le _) | (with_reducible exact billing_Recover_le _) | (intro p;first | (obtain ⟨a,q⟩:Prod _ _:=p;revert q) | skip) | dsimp only)
end Go.Proofs.Ytkpijdndakljjaa

set_option maxRecDepth 1000000
set_option maxHeartbeats 0
namespace Go.Proofs.Ytkpijdndakljjaa
open Go.RowKit
theorem known_j:dialtonelaw38_BillingKnown ()=some true:=dialtonelaw38_BillingKnown_le _ _ (by kernel_rfl)
theorem known_main (a:PUnit) (_:WfIs [] a):dialtonelaw38_BillingKnown a=some true:=known_j
end Go.Proofs.Ytkpijdndakljjaa
