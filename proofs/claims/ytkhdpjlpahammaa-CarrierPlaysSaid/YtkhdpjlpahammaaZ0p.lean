import Derived.Test.YtkhdpjlpahammaaFp
import Derived.Test.YtkhdpjlpahammaaXBp
import Derived.Test.YtkhdpjlpahammaaU0p
set_option linter.unusedVariables false
set_option maxRecDepth 1000000
set_option maxHeartbeats 0
namespace Go.Proofs.Ytkhdpjlpahammaa
open Go.RowKit
def plan37 : List (Nat × PL) := []
noncomputable def cmp_Compare_int : (Int × Int) → Option Int := fun (a1, a2) =>
 bif (decide (a1 ≠ a1)) then
 bif (decide (a2 ≠ a2)) then
 some (0 : Int)
 else
 some (-1 : Int)
 else
 bif (decide (a2 ≠ a2)) then
 some (1 : Int)
 else
 bif (decide (a1 < a2)) then
 some (-1 : Int)
 else
 bif (decide (a1 > a2)) then
 some (1 : Int)
 else
 some (0 : Int)
noncomputable def cons37 : List (Nat × CE) := []
theorem cons37_ok : ConL Try.prog cons37 := trivial
theorem con37 : ConOk Try.prog 37 ⟨[(.tmp 0 false [(.dat (.int .i64))]), (.tmp 1 false [(.dat (.int .i64))])], [(.tmp 0 false [(.dat (.int .i64))])], cmp_Compare_int⟩ :=
  tree_ok (plan := planOf plan37) (eg := egNo) KK tabL_ok (conOf_ok cons37_ok) Try.func37 (by kernel_rfl) (by kernel_rfl) 10000 (fun a r h => Eq.trans (show _ = cmp_Compare_int a from by kernel_rfl) h)
def plan33 : List (Nat × PL) := []
noncomputable def carrier_parcel_at : (Bool × (Int × (Bool × (Int × (Int × ((List UInt8) × ((List UInt8) × (Int × (Bool × (List Int)))))))))) → Option Int := fun (a1, (a2, (a3, (a4, (a5, (a6, (a7, (a8, (a9, a10))))))))) =>
 bif a9 then
 some (Go.IntKind.wrap .i64 (a8 + a4))
 else
 some (Go.IntKind.wrap .i64 (a8 + a2))
noncomputable def cons33 : List (Nat × CE) := (37, ⟨[(.tmp 0 false [(.dat (.int .i64))]), (.tmp 1 false [(.dat (.int .i64))])], [(.tmp 0 false [(.dat (.int .i64))])], cmp_Compare_int⟩) :: cons37
theorem cons33_ok : ConL Try.prog cons33 := ⟨con37, cons37_ok⟩
theorem con33 : ConOk Try.prog 33 ⟨[(.tmp 0 true [(.dat .bool), (.dat (.int .i64)), (.dat .bool), (.dat (.int .i64)), (.dat (.int .i64)), (.dat .str), (.dat .str), (.dat (.int .i64)), (.dat .bool), (.dat (.list (.int .u8)))])], [(.tmp 0 false [(.dat (.int .i64))])], carrier_parcel_at⟩ :=
  tree_ok (plan := planOf plan33) (eg := egNo) KK tabL_ok (conOf_ok cons33_ok) Try.func33 (by kernel_rfl) (by kernel_rfl) 10000 (fun a r h => Eq.trans (show _ = carrier_parcel_at a from by kernel_rfl) h)
def plan38 : List (Nat × PL) := []
noncomputable def carrier_later : (Bool × Bool) → Option Int := fun (a1, a2) =>
 bif (a1 == a2) then
 some (0 : Int)
 else
 bif a1 then
 some (1 : Int)
 else
 some (-1 : Int)
noncomputable def cons38 : List (Nat × CE) := (33, ⟨[(.tmp 0 true [(.dat .bool), (.dat (.int .i64)), (.dat .bool), (.dat (.int .i64)), (.dat (.int .i64)), (.dat .str), (.dat .str), (.dat (.int .i64)), (.dat .bool), (.dat (.list (.int .u8)))])], [(.tmp 0 false [(.dat (.int .i64))])], carrier_parcel_at⟩) :: cons33
theorem cons38_ok : ConL Try.prog cons38 := ⟨con33, cons33_ok⟩
theorem con38 : ConOk Try.prog 38 ⟨[(.tmp 0 false [(.dat .bool)]), (.tmp 1 false [(.dat .bool)])], [(.tmp 0 false [(.dat (.int .i64))])], carrier_later⟩ :=
  tree_ok (plan := planOf plan38) (eg := egNo) KK tabL_ok (conOf_ok cons38_ok) Try.func38 (by kernel_rfl) (by kernel_rfl) 10000 (fun a r h => Eq.trans (show _ = carrier_later a from by kernel_rfl) h)
def plan35 : List (Nat × PL) := [(68853956640, (.carry [.tmp 0 false [(.dat (.int .i64))]])), (9241421624031576577, (.carry [])), (1240362613867588408289003526, (.carry [.tmp 8 false [(.dat (.int .i64))]]))]
noncomputable def carrier_Carrier_Receive_2 : (Int × (Int × (List ((Bool × (Int × (Bool × Int))) × (Int × ((List UInt8) × ((List UInt8) × (Int × (Bool × (List Int)))))))))) → Option Int := fun (a1, (a2, a3)) =>
 bif (decide (((0 : Int) ≤ a1) ∧ (a1 < (((List.length a3) : Nat) : Int)))) then 
 bindO a3[(Int.toNat a1)]? fun x4 =>
 bif (decide (((0 : Int) ≤ a2) ∧ (a2 < (((List.length a3) : Nat) : Int)))) then 
 bindO a3[(Int.toNat a2)]? fun x5 =>
 bindO (carrier_parcel_at (x4.1.1, (x4.1.2.1, (x4.1.2.2.1, (x4.1.2.2.2, (x4.2.1, (x4.2.2.1, (x4.2.2.2.1, (x4.2.2.2.2.1, (x4.2.2.2.2.2.1, x4.2.2.2.2.2.2)))))))))) fun x6 =>
 bindO (carrier_parcel_at (x5.1.1, (x5.1.2.1, (x5.1.2.2.1, (x5.1.2.2.2, (x5.2.1, (x5.2.2.1, (x5.2.2.2.1, (x5.2.2.2.2.1, (x5.2.2.2.2.2.1, x5.2.2.2.2.2.2)))))))))) fun x7 =>
 bindO (cmp_Compare_int (x6, x7)) fun x8 =>
 bindO (cmp_Compare_int (x4.2.1, x5.2.1)) fun x9 =>
 bindO (carrier_later (x4.2.2.2.2.2.1, x5.2.2.2.2.2.1)) fun x10 =>
 joinO (joinO (loopO (fun v11 =>
 bif (decide (v11 < (3 : Int))) then
 bif (decide (((0 : Int) ≤ v11) ∧ (v11 < (3 : Int)))) then 
 bindO (x8 :: (x9 :: (x10 :: ([] : List Int))))[(Int.toNat v11)]? fun x12 =>
 bif (decide (x12 ≠ (0 : Int))) then
 outO (outO (some (Sum.inl x12)))
 else
 some (Sum.inl (Go.IntKind.wrap .i64 (v11 + (1 : Int))))
 else none
 else
 outO (some (Sum.inl ()))) (0 : Int)) fun _ =>
 some (Sum.inl (0 : Int))) fun v14 =>
 some v14
 else none
 else none
noncomputable def cons35 : List (Nat × CE) := (38, ⟨[(.tmp 0 false [(.dat .bool)]), (.tmp 1 false [(.dat .bool)])], [(.tmp 0 false [(.dat (.int .i64))])], carrier_later⟩) :: cons38
theorem cons35_ok : ConL Try.prog cons35 := ⟨con38, cons38_ok⟩
theorem con35 : ConOk Try.prog 35 ⟨[.tmp 0 false [.dat (.int .i64)], .tmp 1 false [.dat (.int .i64)], .tmp 2 false [.pt 20000001 0], .mix 20000001 [.own 20000002 67 UPc]], [.tmp 0 false [.dat (.int .i64)]], carrier_Carrier_Receive_2⟩ :=
  conS_ok (tree_okS (plan := planOf plan35) (eg := egNo) KK tabL_ok (conOf_ok cons35_ok) Try.func35 (by kernel_rfl) (by kernel_rfl) 10000 (fun a r h => Eq.trans (show _ = carrier_Carrier_Receive_2 a from by kernel_rfl) h)) (by rfl)
def plan46 : List (Nat × PL) := [(134481926, (.carry [.tmp 8 false [(.dat (.int .i64))], .row 20000003 3 (.int .i64)])), (35253630009857, (.carry [.tmp 9 false [(.dat (.int .i64))], .row 20000003 3 (.int .i64)])), (2422611007321851379845126, (.carry [.tmp 9 false [(.dat (.int .i64))], .row 20000003 3 (.int .i64)]))]
noncomputable def slices_insertionSortCmpFunc_int : ((List Int) × (Int × (Int × (List ((Bool × (Int × (Bool × Int))) × (Int × ((List UInt8) × ((List UInt8) × (Int × (Bool × (List Int))))))))))) → Option (List Int) := fun (a1, (a2, (a3, a4))) =>
 loopO (fun (v6, v7) =>
 bif (decide (v6 < a3)) then
 joinO (loopO (fun (v8, v9) =>
 bif (decide (v8 > a2)) then
 bif (decide (((0 : Int) ≤ v8) ∧ (v8 < (((List.length a1) : Nat) : Int)))) then 
 bindO v9[(Int.toNat v8)]? fun x10 =>
 bindO (some (Go.IntKind.wrap .i64 (v8 - (1 : Int)))) fun x11 =>
 bif (decide (((0 : Int) ≤ x11) ∧ (x11 < (((List.length a1) : Nat) : Int)))) then 
 bindO v9[(Int.toNat x11)]? fun x12 =>
 bif (decide ((List.length a4) = (List.length a4))) then 
 bindO (carrier_Carrier_Receive_2 (x10, (x12, a4))) fun x13 =>
 bif (decide (x13 < (0 : Int))) then
 bindO (some (Go.IntKind.wrap .i64 (v8 - (1 : Int)))) fun x14 =>
 bindO (some (Go.IntKind.wrap .i64 (v8 - (1 : Int)))) fun x15 =>
 bif (decide (((0 : Int) ≤ x15) ∧ (x15 < (((List.length a1) : Nat) : Int)))) then 
 bindO v9[(Int.toNat x15)]? fun x16 =>
 bif (decide (((0 : Int) ≤ v8) ∧ (v8 < (((List.length a1) : Nat) : Int)))) then 
 bindO v9[(Int.toNat v8)]? fun x17 =>
 bif (decide (((0 : Int) ≤ v8) ∧ (v8 < (((List.length a1) : Nat) : Int)))) then 
 bindO v9[(Int.toNat v8)]? fun x18 =>
 bif (decide (((0 : Int) ≤ x14) ∧ (x14 < (((List.length a1) : Nat) : Int)))) then 
 bindO (List.set v9 (Int.toNat v8) x16)[(Int.toNat x14)]? fun x19 =>
 some (Sum.inl ((Go.IntKind.wrap .i64 (v8 - (1 : Int))), (List.set (List.set v9 (Int.toNat v8) x16) (Int.toNat x14) x17)))
 else none
 else none
 else none
 else none
 else
 outO (some (Sum.inl (v8, v9)))
 else none
 else none
 else none
 else
 outO (some (Sum.inl (v8, v9)))) (v6, v7)) fun (v21, v22) =>
 some (Sum.inl ((Go.IntKind.wrap .i64 (v6 + (1 : Int))), v22))
 else
 outO (some v7)) ((Go.IntKind.wrap .i64 (a2 + (1 : Int))), a1)
noncomputable def cons46 : List (Nat × CE) := (35, ⟨[.tmp 0 false [.dat (.int .i64)], .tmp 1 false [.dat (.int .i64)], .tmp 2 false [.pt 20000001 0], .mix 20000001 [.own 20000002 67 UPc]], [.tmp 0 false [.dat (.int .i64)]], carrier_Carrier_Receive_2⟩) :: cons35
theorem cons46_ok : ConL Try.prog cons46 := ⟨con35, cons35_ok⟩
theorem con46 : ConOk Try.prog 46 ⟨[.tmp 0 false [.own 20000003 3 (.int .i64)], .tmp 1 false [.dat (.int .i64)], .tmp 2 false [.dat (.int .i64)], .tmp 3 false [.cl 35 [(20000001, 0)]], .mix 20000001 [.own 20000002 67 UPc]], [.row 20000003 3 (.int .i64)], slices_insertionSortCmpFunc_int⟩ :=
  conS_ok (tree_okS (plan := planOf plan46) (eg := egNo) KK tabL_ok (conOf_ok cons46_ok) Try.func46 (by kernel_rfl) (by kernel_rfl) 10000 (fun a r h => Eq.trans (show _ = slices_insertionSortCmpFunc_int a from by kernel_rfl) h)) (by rfl)
def plan49 : List (Nat × PL) := [(134481926, (.carry [.tmp 10 false [(.dat (.int .i64))], .row 20000003 3 (.int .i64)]))]
noncomputable def slices_swapRangeCmpFunc_int : ((List Int) × (Int × (Int × (Int × (List ((Bool × (Int × (Bool × Int))) × (Int × ((List UInt8) × ((List UInt8) × (Int × (Bool × (List Int)))))))))))) → Option (List Int) := fun (a1, (a2, (a3, (a4, a5)))) =>
 loopO (fun (v6, v7) =>
 bif (decide (v6 < a4)) then
 bindO (some (Go.IntKind.wrap .i64 (a2 + v6))) fun x8 =>
 bindO (some (Go.IntKind.wrap .i64 (a3 + v6))) fun x9 =>
 bindO (some (Go.IntKind.wrap .i64 (a3 + v6))) fun x10 =>
 bif (decide (((0 : Int) ≤ x10) ∧ (x10 < (((List.length a1) : Nat) : Int)))) then 
 bindO v7[(Int.toNat x10)]? fun x11 =>
 bindO (some (Go.IntKind.wrap .i64 (a2 + v6))) fun x12 =>
 bif (decide (((0 : Int) ≤ x12) ∧ (x12 < (((List.length a1) : Nat) : Int)))) then 
 bindO v7[(Int.toNat x12)]? fun x13 =>
 bif (decide (((0 : Int) ≤ x8) ∧ (x8 < (((List.length a1) : Nat) : Int)))) then 
 bindO v7[(Int.toNat x8)]? fun x14 =>
 bif (decide (((0 : Int) ≤ x9) ∧ (x9 < (((List.length a1) : Nat) : Int)))) then 
 bindO (List.set v7 (Int.toNat x8) x11)[(Int.toNat x9)]? fun x15 =>
 some (Sum.inl ((Go.IntKind.wrap .i64 (v6 + (1 : Int))), (List.set (List.set v7 (Int.toNat x8) x11) (Int.toNat x9) x13)))
 else none
 else none
 else none
 else none
 else
 outO (some v7)) ((0 : Int), a1)
noncomputable def cons49 : List (Nat × CE) := (46, ⟨[.tmp 0 false [.own 20000003 3 (.int .i64)], .tmp 1 false [.dat (.int .i64)], .tmp 2 false [.dat (.int .i64)], .tmp 3 false [.cl 35 [(20000001, 0)]], .mix 20000001 [.own 20000002 67 UPc]], [.row 20000003 3 (.int .i64)], slices_insertionSortCmpFunc_int⟩) :: cons46
theorem cons49_ok : ConL Try.prog cons49 := ⟨con46, cons46_ok⟩
theorem con49 : ConOk Try.prog 49 ⟨[.tmp 0 false [.own 20000003 3 (.int .i64)], .tmp 1 false [.dat (.int .i64)], .tmp 2 false [.dat (.int .i64)], .tmp 3 false [.dat (.int .i64)], .tmp 4 false [.cl 35 [(20000001, 0)]], .mix 20000001 [.own 20000002 67 UPc]], [.row 20000003 3 (.int .i64)], slices_swapRangeCmpFunc_int⟩ :=
  conS_ok (tree_okS (plan := planOf plan49) (eg := egNo) KK tabL_ok (conOf_ok cons49_ok) Try.func49 (by kernel_rfl) (by kernel_rfl) 10000 (fun a r h => Eq.trans (show _ = slices_swapRangeCmpFunc_int a from by kernel_rfl) h)) (by rfl)
def plan48 : List (Nat × PL) := [(134480385, (.carry [.drop 11, .tmp 10 false [(.dat (.int .i64))], .row 20000003 3 (.int .i64)])), (35253225785350, (.carry [.tmp 11 false [(.dat (.int .i64))], .tmp 10 false [(.dat (.int .i64))], .row 20000003 3 (.int .i64)]))]
noncomputable def slices_rotateCmpFunc_int : ((List Int) × (Int × (Int × (Int × (List ((Bool × (Int × (Bool × Int))) × (Int × ((List UInt8) × ((List UInt8) × (Int × (Bool × (List Int)))))))))))) → Option (List Int) := fun (a1, (a2, (a3, (a4, a5)))) =>
 joinO (loopO (fun (v8, (v9, v10)) =>
 bif (decide (v9 ≠ v8)) then
 bif (decide (v9 > v8)) then
 bif ((decide ((List.length a1) = (List.length v10))) && (decide ((List.length a5) = (List.length a5)))) then 
 bindO (slices_swapRangeCmpFunc_int (v10, ((Go.IntKind.wrap .i64 (a3 - v9)), (a3, (v8, a5))))) fun x12 =>
 some (Sum.inl (v8, ((Go.IntKind.wrap .i64 (v9 - v8)), x12)))
 else none
 else
 bif ((decide ((List.length a1) = (List.length v10))) && (decide ((List.length a5) = (List.length a5)))) then 
 bindO (slices_swapRangeCmpFunc_int (v10, ((Go.IntKind.wrap .i64 (a3 - v9)), ((Go.IntKind.wrap .i64 ((Go.IntKind.wrap .i64 (a3 + v8)) - v9)), (v9, a5))))) fun x17 =>
 some (Sum.inl ((Go.IntKind.wrap .i64 (v8 - v9)), (v9, x17)))
 else none
 else
 outO (some (Sum.inl (v9, v10)))) ((Go.IntKind.wrap .i64 (a4 - a3)), ((Go.IntKind.wrap .i64 (a3 - a2)), a1))) fun (v19, v20) =>
 bif ((decide ((List.length a1) = (List.length v20))) && (decide ((List.length a5) = (List.length a5)))) then 
 bindO (slices_swapRangeCmpFunc_int (v20, ((Go.IntKind.wrap .i64 (a3 - v19)), (a3, (v19, a5))))) fun x22 =>
 some x22
 else none
noncomputable def cons48 : List (Nat × CE) := (49, ⟨[.tmp 0 false [.own 20000003 3 (.int .i64)], .tmp 1 false [.dat (.int .i64)], .tmp 2 false [.dat (.int .i64)], .tmp 3 false [.dat (.int .i64)], .tmp 4 false [.cl 35 [(20000001, 0)]], .mix 20000001 [.own 20000002 67 UPc]], [.row 20000003 3 (.int .i64)], slices_swapRangeCmpFunc_int⟩) :: cons49
theorem cons48_ok : ConL Try.prog cons48 := ⟨con49, cons49_ok⟩
theorem con48 : ConOk Try.prog 48 ⟨[.tmp 0 false [.own 20000003 3 (.int .i64)], .tmp 1 false [.dat (.int .i64)], .tmp 2 false [.dat (.int .i64)], .tmp 3 false [.dat (.int .i64)], .tmp 4 false [.cl 35 [(20000001, 0)]], .mix 20000001 [.own 20000002 67 UPc]], [.row 20000003 3 (.int .i64)], slices_rotateCmpFunc_int⟩ :=
  conS_ok (tree_okS (plan := planOf plan48) (eg := egNo) KK tabL_ok (conOf_ok cons48_ok) Try.func48 (by kernel_rfl) (by kernel_rfl) 10000 (fun a r h => Eq.trans (show _ = slices_rotateCmpFunc_int a from by kernel_rfl) h)) (by rfl)
def plan47 : List (Nat × PL) := [(513, (.carry [])), (18014467497656833, (.carry [.drop 11, .tmp 10 false [(.dat (.int .i64))]])), (262657, (.carry [])), (4722384567705752569862, (.carry [.tmp 11 false [(.dat (.int .i64))], .tmp 10 false [(.dat (.int .i64))]])), (1237944780116656869855201286, (.carry [.tmp 13 false [(.dat (.int .i64))], .row 20000003 3 (.int .i64)])), (9241386504352432641, (.carry [.drop 15, .tmp 14 false [(.dat (.int .i64))]])), (18049651735527937, (.carry [.tmp 21 false [(.dat (.int .i64))], .tmp 20 false [(.dat (.int .i64))]])), (2422574023796964101982214, (.carry [.tmp 15 false [(.dat (.int .i64))], .tmp 14 false [(.dat (.int .i64))]])), (635063244894231357618206803974, (.carry [.tmp 17 false [(.dat (.int .i64))], .row 20000003 3 (.int .i64)])), (4731607904558235517441, (.carry [.drop 21, .tmp 20 false [(.dat (.int .i64))]])), (1240362622532514091483793414, (.carry [.tmp 21 false [(.dat (.int .i64))], .tmp 20 false [(.dat (.int .i64))]])), (1240362622532514091484054017, (.carry [.row 20000003 3 (.int .i64)])), (635065662736647214839835656705, (.carry [.row 20000003 3 (.int .i64)]))]
noncomputable def slices_symMergeCmpFunc_int_B (slices_symMergeCmpFunc_int_h : ((List Int) × (Int × (Int × (Int × (List ((Bool × (Int × (Bool × Int))) × (Int × ((List UInt8) × ((List UInt8) × (Int × (Bool × (List Int)))))))))))) → Option (List Int)) : ((List Int) × (Int × (Int × (Int × (List ((Bool × (Int × (Bool × Int))) × (Int × ((List UInt8) × ((List UInt8) × (Int × (Bool × (List Int)))))))))))) → Option (List Int) := fun (a1, (a2, (a3, (a4, a5)))) =>
 joinO (bif (decide ((Go.IntKind.wrap .i64 (a3 - a2)) = (1 : Int))) then
 joinO (loopO (fun (v7, v8) =>
 bif (decide (v8 < v7)) then
 bindO (some (Int.fdiv (Go.IntKind.wrap .u64 (Go.IntKind.wrap .i64 (v8 + v7))) (2 : Int))) fun x11 =>
 bif (decide (((0 : Int) ≤ (Go.IntKind.wrap .i64 x11)) ∧ ((Go.IntKind.wrap .i64 x11) < (((List.length a1) : Nat) : Int)))) then 
 bindO a1[(Int.toNat (Go.IntKind.wrap .i64 x11))]? fun x13 =>
 bif (decide (((0 : Int) ≤ a2) ∧ (a2 < (((List.length a1) : Nat) : Int)))) then 
 bindO a1[(Int.toNat a2)]? fun x14 =>
 bif (decide ((List.length a5) = (List.length a5))) then 
 bindO (carrier_Carrier_Receive_2 (x13, (x14, a5))) fun x15 =>
 bif (decide (x15 < (0 : Int))) then
 some (Sum.inl (v7, (Go.IntKind.wrap .i64 ((Go.IntKind.wrap .i64 x11) + (1 : Int)))))
 else
 some (Sum.inl ((Go.IntKind.wrap .i64 x11), v8))
 else none
 else none
 else none
 else
 outO (some (Sum.inl v8))) (a4, a3)) fun v17 =>
 loopO (fun (v18, v19) =>
 bif (decide (v18 < (Go.IntKind.wrap .i64 (v17 - (1 : Int))))) then
 bindO (some (Go.IntKind.wrap .i64 (v18 + (1 : Int)))) fun x21 =>
 bindO (some (Go.IntKind.wrap .i64 (v18 + (1 : Int)))) fun x22 =>
 bif (decide (((0 : Int) ≤ x22) ∧ (x22 < (((List.length a1) : Nat) : Int)))) then 
 bindO v19[(Int.toNat x22)]? fun x23 =>
 bif (decide (((0 : Int) ≤ v18) ∧ (v18 < (((List.length a1) : Nat) : Int)))) then 
 bindO v19[(Int.toNat v18)]? fun x24 =>
 bif (decide (((0 : Int) ≤ v18) ∧ (v18 < (((List.length a1) : Nat) : Int)))) then 
 bindO v19[(Int.toNat v18)]? fun x25 =>
 bif (decide (((0 : Int) ≤ x21) ∧ (x21 < (((List.length a1) : Nat) : Int)))) then 
 bindO (List.set v19 (Int.toNat v18) x23)[(Int.toNat x21)]? fun x26 =>
 some (Sum.inl ((Go.IntKind.wrap .i64 (v18 + (1 : Int))), (List.set (List.set v19 (Int.toNat v18) x23) (Int.toNat x21) x24)))
 else none
 else none
 else none
 else none
 else
 outO (outO (some v19))) (a2, a1)
 else
 some (Sum.inl ())) fun _ =>
 joinO (bif (decide ((Go.IntKind.wrap .i64 (a4 - a3)) = (1 : Int))) then
 joinO (loopO (fun (v29, v30) =>
 bif (decide (v30 < v29)) then
 bindO (some (Int.fdiv (Go.IntKind.wrap .u64 (Go.IntKind.wrap .i64 (v30 + v29))) (2 : Int))) fun x33 =>
 bif (decide (((0 : Int) ≤ a3) ∧ (a3 < (((List.length a1) : Nat) : Int)))) then 
 bindO a1[(Int.toNat a3)]? fun x35 =>
 bif (decide (((0 : Int) ≤ (Go.IntKind.wrap .i64 x33)) ∧ ((Go.IntKind.wrap .i64 x33) < (((List.length a1) : Nat) : Int)))) then 
 bindO a1[(Int.toNat (Go.IntKind.wrap .i64 x33))]? fun x36 =>
 bif (decide ((List.length a5) = (List.length a5))) then 
 bindO (carrier_Carrier_Receive_2 (x35, (x36, a5))) fun x37 =>
 bif (!(decide (x37 < (0 : Int)))) then
 some (Sum.inl (v29, (Go.IntKind.wrap .i64 ((Go.IntKind.wrap .i64 x33) + (1 : Int)))))
 else
 some (Sum.inl ((Go.IntKind.wrap .i64 x33), v30))
 else none
 else none
 else none
 else
 outO (some (Sum.inl v30))) (a3, a2)) fun v39 =>
 loopO (fun (v40, v41) =>
 bif (decide (v40 > v39)) then
 bindO (some (Go.IntKind.wrap .i64 (v40 - (1 : Int)))) fun x42 =>
 bindO (some (Go.IntKind.wrap .i64 (v40 - (1 : Int)))) fun x43 =>
 bif (decide (((0 : Int) ≤ x43) ∧ (x43 < (((List.length a1) : Nat) : Int)))) then 
 bindO v41[(Int.toNat x43)]? fun x44 =>
 bif (decide (((0 : Int) ≤ v40) ∧ (v40 < (((List.length a1) : Nat) : Int)))) then 
 bindO v41[(Int.toNat v40)]? fun x45 =>
 bif (decide (((0 : Int) ≤ v40) ∧ (v40 < (((List.length a1) : Nat) : Int)))) then 
 bindO v41[(Int.toNat v40)]? fun x46 =>
 bif (decide (((0 : Int) ≤ x42) ∧ (x42 < (((List.length a1) : Nat) : Int)))) then 
 bindO (List.set v41 (Int.toNat v40) x44)[(Int.toNat x42)]? fun x47 =>
 some (Sum.inl ((Go.IntKind.wrap .i64 (v40 - (1 : Int))), (List.set (List.set v41 (Int.toNat v40) x44) (Int.toNat x42) x45)))
 else none
 else none
 else none
 else none
 else
 outO (outO (some v41))) (a3, a1)
 else
 some (Sum.inl ())) fun _ =>
 bindO (some (Int.fdiv (Go.IntKind.wrap .u64 (Go.IntKind.wrap .i64 (a2 + a4))) (2 : Int))) fun x51 =>
 bindO (some (Go.IntKind.wrap .i64 ((Go.IntKind.wrap .i64 x51) + a3))) fun x53 =>
 joinO (bif (decide (a3 > (Go.IntKind.wrap .i64 x51))) then
 some (Sum.inl ((Go.IntKind.wrap .i64 x51), (Go.IntKind.wrap .i64 (x53 - a4))))
 else
 some (Sum.inl (a3, a2))) fun (v55, v56) =>
 joinO (loopO (fun (v58, v59) =>
 bif (decide (v59 < v58)) then
 bindO (some (Int.fdiv (Go.IntKind.wrap .u64 (Go.IntKind.wrap .i64 (v59 + v58))) (2 : Int))) fun x62 =>
 bindO (some (Go.IntKind.wrap .i64 ((Go.IntKind.wrap .i64 (x53 - (1 : Int))) - (Go.IntKind.wrap .i64 x62)))) fun x64 =>
 bif (decide (((0 : Int) ≤ x64) ∧ (x64 < (((List.length a1) : Nat) : Int)))) then 
 bindO a1[(Int.toNat x64)]? fun x65 =>
 bif (decide (((0 : Int) ≤ (Go.IntKind.wrap .i64 x62)) ∧ ((Go.IntKind.wrap .i64 x62) < (((List.length a1) : Nat) : Int)))) then 
 bindO a1[(Int.toNat (Go.IntKind.wrap .i64 x62))]? fun x66 =>
 bif (decide ((List.length a5) = (List.length a5))) then 
 bindO (carrier_Carrier_Receive_2 (x65, (x66, a5))) fun x67 =>
 bif (!(decide (x67 < (0 : Int)))) then
 some (Sum.inl (v58, (Go.IntKind.wrap .i64 ((Go.IntKind.wrap .i64 x62) + (1 : Int)))))
 else
 some (Sum.inl ((Go.IntKind.wrap .i64 x62), v59))
 else none
 else none
 else none
 else
 outO (some (Sum.inl v59))) (v55, v56)) fun v69 =>
 bindO (some (Go.IntKind.wrap .i64 (x53 - v69))) fun x70 =>
 joinO (bif (decide (v69 < a3)) then
 bif (decide (a3 < x70)) then
 bif ((decide ((List.length a1) = (List.length a1))) && (decide ((List.length a5) = (List.length a5)))) then 
 bindO (slices_rotateCmpFunc_int (a1, (v69, (a3, (x70, a5))))) fun x71 =>
 some (Sum.inl x71)
 else none
 else
 some (Sum.inl a1)
 else
 some (Sum.inl a1)) fun v72 =>
 joinO (bif (decide (a2 < v69)) then
 bif (decide (v69 < (Go.IntKind.wrap .i64 x51))) then
 bif ((decide ((List.length a1) = (List.length v72))) && (decide ((List.length a5) = (List.length a5)))) then 
 bindO (slices_symMergeCmpFunc_int_h (v72, (a2, (v69, ((Go.IntKind.wrap .i64 x51), a5))))) fun x73 =>
 some (Sum.inl x73)
 else none
 else
 some (Sum.inl v72)
 else
 some (Sum.inl v72)) fun v74 =>
 bif (decide ((Go.IntKind.wrap .i64 x51) < x70)) then
 bif (decide (x70 < a4)) then
 bif ((decide ((List.length a1) = (List.length v74))) && (decide ((List.length a5) = (List.length a5)))) then 
 bindO (slices_symMergeCmpFunc_int_h (v74, ((Go.IntKind.wrap .i64 x51), (x70, (a4, a5))))) fun x75 =>
 some x75
 else none
 else
 some v74
 else
 some v74
noncomputable def cons47 (slices_symMergeCmpFunc_int_h : ((List Int) × (Int × (Int × (Int × (List ((Bool × (Int × (Bool × Int))) × (Int × ((List UInt8) × ((List UInt8) × (Int × (Bool × (List Int)))))))))))) → Option (List Int)) : List (Nat × CE) := [(47, ⟨[.tmp 0 false [.own 20000003 3 (.int .i64)], .tmp 1 false [.dat (.int .i64)], .tmp 2 false [.dat (.int .i64)], .tmp 3 false [.dat (.int .i64)], .tmp 4 false [.cl 35 [(20000001, 0)]], .mix 20000001 [.own 20000002 67 UPc]], [.row 20000003 3 (.int .i64)], slices_symMergeCmpFunc_int_h⟩), (37, ⟨[(.tmp 0 false [(.dat (.int .i64))]), (.tmp 1 false [(.dat (.int .i64))])], [(.tmp 0 false [(.dat (.int .i64))])], cmp_Compare_int⟩), (33, ⟨[(.tmp 0 true [(.dat .bool), (.dat (.int .i64)), (.dat .bool), (.dat (.int .i64)), (.dat (.int .i64)), (.dat .str), (.dat .str), (.dat (.int .i64)), (.dat .bool), (.dat (.list (.int .u8)))])], [(.tmp 0 false [(.dat (.int .i64))])], carrier_parcel_at⟩), (38, ⟨[(.tmp 0 false [(.dat .bool)]), (.tmp 1 false [(.dat .bool)])], [(.tmp 0 false [(.dat (.int .i64))])], carrier_later⟩), (35, ⟨[.tmp 0 false [.dat (.int .i64)], .tmp 1 false [.dat (.int .i64)], .tmp 2 false [.pt 20000001 0], .mix 20000001 [.own 20000002 67 UPc]], [.tmp 0 false [.dat (.int .i64)]], carrier_Carrier_Receive_2⟩), (46, ⟨[.tmp 0 false [.own 20000003 3 (.int .i64)], .tmp 1 false [.dat (.int .i64)], .tmp 2 false [.dat (.int .i64)], .tmp 3 false [.cl 35 [(20000001, 0)]], .mix 20000001 [.own 20000002 67 UPc]], [.row 20000003 3 (.int .i64)], slices_insertionSortCmpFunc_int⟩), (49, ⟨[.tmp 0 false [.own 20000003 3 (.int .i64)], .tmp 1 false [.dat (.int .i64)], .tmp 2 false [.dat (.int .i64)], .tmp 3 false [.dat (.int .i64)], .tmp 4 false [.cl 35 [(20000001, 0)]], .mix 20000001 [.own 20000002 67 UPc]], [.row 20000003 3 (.int .i64)], slices_swapRangeCmpFunc_int⟩), (48, ⟨[.tmp 0 false [.own 20000003 3 (.int .i64)], .tmp 1 false [.dat (.int .i64)], .tmp 2 false [.dat (.int .i64)], .tmp 3 false [.dat (.int .i64)], .tmp 4 false [.cl 35 [(20000001, 0)]], .mix 20000001 [.own 20000002 67 UPc]], [.row 20000003 3 (.int .i64)], slices_rotateCmpFunc_int⟩)]
theorem cons47_ok (slices_symMergeCmpFunc_int_h : ((List Int) × (Int × (Int × (Int × (List ((Bool × (Int × (Bool × Int))) × (Int × ((List UInt8) × ((List UInt8) × (Int × (Bool × (List Int)))))))))))) → Option (List Int)) (hh : ConOk Try.prog 47 ⟨[.tmp 0 false [.own 20000003 3 (.int .i64)], .tmp 1 false [.dat (.int .i64)], .tmp 2 false [.dat (.int .i64)], .tmp 3 false [.dat (.int .i64)], .tmp 4 false [.cl 35 [(20000001, 0)]], .mix 20000001 [.own 20000002 67 UPc]], [.row 20000003 3 (.int .i64)], slices_symMergeCmpFunc_int_h⟩) : ConL Try.prog (cons47 slices_symMergeCmpFunc_int_h) := ⟨hh, con37, con33, con38, con35, con46, con49, con48, trivial⟩
theorem conB47 (slices_symMergeCmpFunc_int_h : ((List Int) × (Int × (Int × (Int × (List ((Bool × (Int × (Bool × Int))) × (Int × ((List UInt8) × ((List UInt8) × (Int × (Bool × (List Int)))))))))))) → Option (List Int)) (hh : ConOk Try.prog 47 ⟨[.tmp 0 false [.own 20000003 3 (.int .i64)], .tmp 1 false [.dat (.int .i64)], .tmp 2 false [.dat (.int .i64)], .tmp 3 false [.dat (.int .i64)], .tmp 4 false [.cl 35 [(20000001, 0)]], .mix 20000001 [.own 20000002 67 UPc]], [.row 20000003 3 (.int .i64)], slices_symMergeCmpFunc_int_h⟩) : ConOk Try.prog 47 ⟨[.tmp 0 false [.own 20000003 3 (.int .i64)], .tmp 1 false [.dat (.int .i64)], .tmp 2 false [.dat (.int .i64)], .tmp 3 false [.dat (.int .i64)], .tmp 4 false [.cl 35 [(20000001, 0)]], .mix 20000001 [.own 20000002 67 UPc]], [.row 20000003 3 (.int .i64)], slices_symMergeCmpFunc_int_B slices_symMergeCmpFunc_int_h⟩ :=
  conS_ok (tree_okS (plan := planOf plan47) (eg := egNo) KK tabL_ok (conOf_ok (cons47_ok slices_symMergeCmpFunc_int_h hh)) Try.func47 (by kernel_rfl) (by kernel_rfl) 10000 (fun a r h => Eq.trans (show _ = slices_symMergeCmpFunc_int_B slices_symMergeCmpFunc_int_h a from by kernel_rfl) h)) (by rfl)
noncomputable def slices_symMergeCmpFunc_int_N : Nat → ((List Int) × (Int × (Int × (Int × (List ((Bool × (Int × (Bool × Int))) × (Int × ((List UInt8) × ((List UInt8) × (Int × (Bool × (List Int)))))))))))) → Option (List Int)
  | 0 => fun _ => none
  | k + 1 => slices_symMergeCmpFunc_int_B (slices_symMergeCmpFunc_int_N k)
theorem conN47 : ∀ k, ConOk Try.prog 47 ⟨[.tmp 0 false [.own 20000003 3 (.int .i64)], .tmp 1 false [.dat (.int .i64)], .tmp 2 false [.dat (.int .i64)], .tmp 3 false [.dat (.int .i64)], .tmp 4 false [.cl 35 [(20000001, 0)]], .mix 20000001 [.own 20000002 67 UPc]], [.row 20000003 3 (.int .i64)], slices_symMergeCmpFunc_int_N k⟩
  | 0 => conS_ok ⟨by kernel_rfl, fun a r h => by cases h⟩ (by rfl)
  | k + 1 => conB47 _ (conN47 k)
noncomputable def slices_symMergeCmpFunc_int : ((List Int) × (Int × (Int × (Int × (List ((Bool × (Int × (Bool × Int))) × (Int × ((List UInt8) × ((List UInt8) × (Int × (Bool × (List Int)))))))))))) → Option (List Int) := slices_symMergeCmpFunc_int_N 200
theorem con47 : ConOk Try.prog 47 ⟨[.tmp 0 false [.own 20000003 3 (.int .i64)], .tmp 1 false [.dat (.int .i64)], .tmp 2 false [.dat (.int .i64)], .tmp 3 false [.dat (.int .i64)], .tmp 4 false [.cl 35 [(20000001, 0)]], .mix 20000001 [.own 20000002 67 UPc]], [.row 20000003 3 (.int .i64)], slices_symMergeCmpFunc_int⟩ := conN47 200
def plan45 : List (Nat × PL) := [(134480385, (.carry [.tmp 8 false [(.dat (.int .i64))], .tmp 7 false [(.dat (.int .i64))], .row 20000003 3 (.int .i64)])), (35253225785350, (.carry [.tmp 8 false [(.dat (.int .i64))], .tmp 7 false [(.dat (.int .i64))], .row 20000003 3 (.int .i64)])), (18049651735529478, (.carry [.tmp 6 false [(.dat (.int .i64))], .tmp 8 false [(.dat (.int .i64))], .tmp 7 false [(.dat (.int .i64))], .row 20000003 3 (.int .i64)])), (1240362622532619988198490625, (.carry [.tmp 8 false [(.dat (.int .i64))], .tmp 7 false [(.dat (.int .i64))], .row 20000003 3 (.int .i64)])), (325153619321191134186305126139910, (.carry [.tmp 8 false [(.dat (.int .i64))], .tmp 7 false [(.dat (.int .i64))], .row 20000003 3 (.int .i64)]))]
noncomputable def slices_stableCmpFunc_int : ((List Int) × (Int × (List ((Bool × (Int × (Bool × Int))) × (Int × ((List UInt8) × ((List UInt8) × (Int × (Bool × (List Int)))))))))) → Option (List Int) := fun (a1, (a2, a3)) =>
 joinO (loopO (fun (v4, (v5, v6)) =>
 bif (decide (v4 ≤ a2)) then
 bif ((decide ((List.length a1) = (List.length v6))) && (decide ((List.length a3) = (List.length a3)))) then 
 bindO (slices_insertionSortCmpFunc_int (v6, (v5, (v4, a3)))) fun x7 =>
 some (Sum.inl ((Go.IntKind.wrap .i64 (v4 + (20 : Int))), (v4, x7)))
 else none
 else
 outO (some (Sum.inl (v4, (v5, v6))))) ((20 : Int), ((0 : Int), a1))) fun (v9, (v10, v11)) =>
 bif ((decide ((List.length a1) = (List.length v11))) && (decide ((List.length a3) = (List.length a3)))) then 
 bindO (slices_insertionSortCmpFunc_int (v11, (v10, (a2, a3)))) fun x12 =>
 loopO (fun (v13, (v14, (v15, v16))) =>
 bif (decide (v13 < a2)) then
 joinO (loopO (fun (v18, (v19, v20)) =>
 bif (decide (v18 ≤ a2)) then
 bif ((decide ((List.length a1) = (List.length v20))) && (decide ((List.length a3) = (List.length a3)))) then 
 bindO (slices_symMergeCmpFunc_int (v20, (v19, ((Go.IntKind.wrap .i64 (v19 + v13)), (v18, a3))))) fun x22 =>
 some (Sum.inl ((Go.IntKind.wrap .i64 (v18 + (Go.IntKind.wrap .i64 ((2 : Int) * v13)))), (v18, x22)))
 else none
 else
 outO (some (Sum.inl (v18, (v19, v20))))) ((Go.IntKind.wrap .i64 ((2 : Int) * v13)), ((0 : Int), v16))) fun (v25, (v26, v27)) =>
 bindO (some (Go.IntKind.wrap .i64 (v26 + v13))) fun x28 =>
 bif (decide (x28 < a2)) then
 bif ((decide ((List.length a1) = (List.length v27))) && (decide ((List.length a3) = (List.length a3)))) then 
 bindO (slices_symMergeCmpFunc_int (v27, (v26, (x28, (a2, a3))))) fun x29 =>
 some (Sum.inl ((Go.IntKind.wrap .i64 (v13 * (2 : Int))), (v25, (v26, x29))))
 else none
 else
 some (Sum.inl ((Go.IntKind.wrap .i64 (v13 * (2 : Int))), (v25, (v26, v27))))
 else
 outO (some v16)) ((20 : Int), (v9, (v10, x12)))
 else none
noncomputable def cons45 : List (Nat × CE) := (47, ⟨[.tmp 0 false [.own 20000003 3 (.int .i64)], .tmp 1 false [.dat (.int .i64)], .tmp 2 false [.dat (.int .i64)], .tmp 3 false [.dat (.int .i64)], .tmp 4 false [.cl 35 [(20000001, 0)]], .mix 20000001 [.own 20000002 67 UPc]], [.row 20000003 3 (.int .i64)], slices_symMergeCmpFunc_int⟩) :: (48, ⟨[.tmp 0 false [.own 20000003 3 (.int .i64)], .tmp 1 false [.dat (.int .i64)], .tmp 2 false [.dat (.int .i64)], .tmp 3 false [.dat (.int .i64)], .tmp 4 false [.cl 35 [(20000001, 0)]], .mix 20000001 [.own 20000002 67 UPc]], [.row 20000003 3 (.int .i64)], slices_rotateCmpFunc_int⟩) :: cons48
theorem cons45_ok : ConL Try.prog cons45 := ⟨con47, ⟨con48, cons48_ok⟩⟩
theorem con45 : ConOk Try.prog 45 ⟨[.tmp 0 false [.own 20000003 3 (.int .i64)], .tmp 1 false [.dat (.int .i64)], .tmp 2 false [.cl 35 [(20000001, 0)]], .mix 20000001 [.own 20000002 67 UPc]], [.row 20000003 3 (.int .i64)], slices_stableCmpFunc_int⟩ :=
  conS_ok (tree_okS (plan := planOf plan45) (eg := egNo) KK tabL_ok (conOf_ok cons45_ok) Try.func45 (by kernel_rfl) (by kernel_rfl) 10000 (fun a r h => Eq.trans (show _ = slices_stableCmpFunc_int a from by kernel_rfl) h)) (by rfl)
def plan43 : List (Nat × PL) := []
noncomputable def slices_SortStableFunc___int_int : ((List Int) × (List ((Bool × (Int × (Bool × Int))) × (Int × ((List UInt8) × ((List UInt8) × (Int × (Bool × (List Int))))))))) → Option (List Int) := fun (a1, a2) =>
 bif ((decide ((List.length a1) = (List.length a1))) && (decide ((List.length a2) = (List.length a2)))) then 
 bindO (slices_stableCmpFunc_int (a1, ((((List.length a1) : Nat) : Int), a2))) fun x3 =>
 some x3
 else none
noncomputable def cons43 : List (Nat × CE) := (45, ⟨[.tmp 0 false [.own 20000003 3 (.int .i64)], .tmp 1 false [.dat (.int .i64)], .tmp 2 false [.cl 35 [(20000001, 0)]], .mix 20000001 [.own 20000002 67 UPc]], [.row 20000003 3 (.int .i64)], slices_stableCmpFunc_int⟩) :: cons45
theorem cons43_ok : ConL Try.prog cons43 := ⟨con45, cons45_ok⟩
theorem con43 : ConOk Try.prog 43 ⟨[.tmp 0 false [.own 20000003 3 (.int .i64)], .tmp 1 false [.cl 35 [(20000001, 0)]], .mix 20000001 [.own 20000002 67 UPc]], [.row 20000003 3 (.int .i64)], slices_SortStableFunc___int_int⟩ :=
  conS_ok (tree_okS (plan := planOf plan43) (eg := egNo) KK tabL_ok (conOf_ok cons43_ok) Try.func43 (by kernel_rfl) (by kernel_rfl) 10000 (fun a r h => Eq.trans (show _ = slices_SortStableFunc___int_int a from by kernel_rfl) h)) (by rfl)
end Go.Proofs.Ytkhdpjlpahammaa
