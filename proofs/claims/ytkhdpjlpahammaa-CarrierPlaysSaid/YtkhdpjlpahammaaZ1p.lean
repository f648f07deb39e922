import Derived.Test.YtkhdpjlpahammaaFp
import Derived.Test.YtkhdpjlpahammaaXBp
import Derived.Test.YtkhdpjlpahammaaA1p
import Derived.Test.YtkhdpjlpahammaaZ0p
set_option linter.unusedVariables false
set_option maxRecDepth 1000000
set_option maxHeartbeats 0
namespace Go.Proofs.Ytkhdpjlpahammaa
open Go.RowKit
def plan10 : List (Nat × PL) := [(35253226045461, (.carry [.tmp 0 false [(.own 10000005 67 (.pair (.pair .bool (.pair (.int .i64) (.pair .bool (.int .i64)))) (.pair (.int .i64) (.pair .str (.pair .str (.pair (.int .i64) (.pair .bool (.list (.int .u8)))))))))], .tmp 1 false [(.own 10000006 67 (.pair (.pair .bool (.pair (.int .i64) (.pair .bool (.int .i64)))) (.pair (.int .i64) (.pair .str (.pair .str (.pair (.int .i64) (.pair .bool (.list (.int .u8)))))))))]])), (9241421688461328897, (.carry [.tmp 5 false [(.own 10000003 67 (.pair (.pair .bool (.pair (.int .i64) (.pair .bool (.int .i64)))) (.pair (.int .i64) (.pair .str (.pair .str (.pair (.int .i64) (.pair .bool (.list (.int .u8)))))))))], .tmp 4 false [(.own 10000004 67 (.pair (.pair .bool (.pair (.int .i64) (.pair .bool (.int .i64)))) (.pair (.int .i64) (.pair .str (.pair .str (.pair (.int .i64) (.pair .bool (.list (.int .u8)))))))))]])), (1240362622515203380282132486, (.carry [.tmp 10 false [(.dat (.int .i64))], .tmp 5 false [(.own 10000002 67 (.pair (.pair .bool (.pair (.int .i64) (.pair .bool (.int .i64)))) (.pair (.int .i64) (.pair .str (.pair .str (.pair (.int .i64) (.pair .bool (.list (.int .u8)))))))))], .tmp 4 false [(.own 10000001 67 (.pair (.pair .bool (.pair (.int .i64) (.pair .bool (.int .i64)))) (.pair (.int .i64) (.pair .str (.pair .str (.pair (.int .i64) (.pair .bool (.list (.int .u8)))))))))]])), (18049651735527442, (.carry [.tmp 0 false [(.own 10000007 67 (.pair (.pair .bool (.pair (.int .i64) (.pair .bool (.int .i64)))) (.pair (.int .i64) (.pair .str (.pair .str (.pair (.int .i64) (.pair .bool (.list (.int .u8)))))))))]])), (2422583247133750147154433, (.carry [.row 45 3 (.int .i64)])), (325153619321154456870733528434694, (.carry [.tmp 15 false [(.dat (.int .i64))], .row 45 3 (.int .i64)])), (325153619321154456870733662650881, (.carry [.tmp 7 false [(.own 10000009 67 (.pair (.pair .bool (.pair (.int .i64) (.pair .bool (.int .i64)))) (.pair (.int .i64) (.pair .str (.pair .str (.pair (.int .i64) (.pair .bool (.list (.int .u8)))))))))], .dead 52])), (43641380036262253538263861894119571064838, (.carry [.tmp 31 false [(.dat (.int .i64))], .tmp 7 false [(.own 10000008 67 (.pair (.pair .bool (.pair (.int .i64) (.pair .bool (.int .i64)))) (.pair (.int .i64) (.pair .str (.pair .str (.pair (.int .i64) (.pair .bool (.list (.int .u8)))))))))], .dead 52])), (2422583247133816584929793, (.carry [.tmp 8 false [(.own 10000013 40 (.pair (.int .i64) (.pair .str (.pair .str (.pair (.int .i64) (.list (.int .u8)))))))]])), (325153619321163373997995722016774, (.carry [.tmp 45 false [(.dat (.int .i64))], .tmp 8 false [(.own 10000012 40 (.pair (.int .i64) (.pair .str (.pair .str (.pair (.int .i64) (.list (.int .u8)))))))]]))]
noncomputable def carrier_Carrier_Receive : (Int × (Bool × ((List (Bool × (Int × (Bool × Int)))) × ((List ((Bool × (Int × (Bool × Int))) × (Int × ((List UInt8) × ((List UInt8) × (Int × (Bool × (List Int)))))))) × (Int × (Int × Int)))))) → Option ((List (Int × ((List UInt8) × ((List UInt8) × (Int × (List Int)))))) × (Int × (Bool × ((List (Bool × (Int × (Bool × Int)))) × ((List ((Bool × (Int × (Bool × Int))) × (Int × ((List UInt8) × ((List UInt8) × (Int × (Bool × (List Int)))))))) × (Int × (Int × Int))))))) := fun (a1, (a2, (a3, (a4, (a5, (a6, a7)))))) =>
 bif (!a2) then
 bif ((decide ((List.length a3) ≤ (List.length a3))) && (decide ((List.length a4) ≤ (List.length a4)))) then 
 some (([] : List (Int × ((List UInt8) × ((List UInt8) × (Int × (List Int)))))), ((1 : Int), (a2, ((List.take (List.length a3) a3), ((List.take (List.length a4) a4), (a5, (a6, a7)))))))
 else none
 else
 bif (decide (a1 < a7)) then
 bif ((decide ((List.length a3) ≤ (List.length a3))) && (decide ((List.length a4) ≤ (List.length a4)))) then 
 some (([] : List (Int × ((List UInt8) × ((List UInt8) × (Int × (List Int)))))), ((3 : Int), (a2, ((List.take (List.length a3) a3), ((List.take (List.length a4) a4), (a5, (a6, a7)))))))
 else none
 else
 bif (decide (a1 > (1099511627776 : Int))) then
 bif ((decide ((List.length a3) ≤ (List.length a3))) && (decide ((List.length a4) ≤ (List.length a4)))) then 
 some (([] : List (Int × ((List UInt8) × ((List UInt8) × (Int × (List Int)))))), ((3 : Int), (a2, ((List.take (List.length a3) a3), ((List.take (List.length a4) a4), (a5, (a6, a7)))))))
 else none
 else
 joinO (joinO (loopO (fun (v8, (v9, v10)) =>
 bif (decide (v8 < (((List.length a4) : Nat) : Int))) then
 bif (decide (((0 : Int) ≤ v8) ∧ (v8 < (((List.length a4) : Nat) : Int)))) then 
 bindO a4[(Int.toNat v8)]? fun x11 =>
 bindO (carrier_parcel_at (x11.1.1, (x11.1.2.1, (x11.1.2.2.1, (x11.1.2.2.2, (x11.2.1, (x11.2.2.1, (x11.2.2.2.1, (x11.2.2.2.2.1, (x11.2.2.2.2.2.1, x11.2.2.2.2.2.2)))))))))) fun x12 =>
 bif (decide (x12 ≤ a1)) then
 bif (decide ((List.length v10) ≤ (List.length v10))) then 
 bif (decide (((List.length ((List.take (List.length v10) v10) ++ (((x11.1.1, (x11.1.2.1, (x11.1.2.2.1, x11.1.2.2.2))), (x11.2.1, (x11.2.2.1, (x11.2.2.2.1, (x11.2.2.2.2.1, (x11.2.2.2.2.2.1, x11.2.2.2.2.2.2)))))) :: ([] : List ((Bool × (Int × (Bool × Int))) × (Int × ((List UInt8) × ((List UInt8) × (Int × (Bool × (List Int))))))))))) * 112) ≤ 140737488355328)) then 
 bindO (some ((List.take (List.length v10) v10) ++ (((x11.1.1, (x11.1.2.1, (x11.1.2.2.1, x11.1.2.2.2))), (x11.2.1, (x11.2.2.1, (x11.2.2.2.1, (x11.2.2.2.2.1, (x11.2.2.2.2.2.1, x11.2.2.2.2.2.2)))))) :: ([] : List ((Bool × (Int × (Bool × Int))) × (Int × ((List UInt8) × ((List UInt8) × (Int × (Bool × (List Int))))))))))) fun x13 =>
 bif ((decide ((List.length v9) ≤ (List.length v9))) && (decide ((List.length x13) ≤ (List.length x13)))) then 
 some (Sum.inl ((Go.IntKind.wrap .i64 (v8 + (1 : Int))), ((List.take (List.length v9) v9), (List.take (List.length x13) x13))))
 else none
 else none
 else none
 else
 bif (decide ((List.length v9) ≤ (List.length v9))) then 
 bif (decide (((List.length ((List.take (List.length v9) v9) ++ (((x11.1.1, (x11.1.2.1, (x11.1.2.2.1, x11.1.2.2.2))), (x11.2.1, (x11.2.2.1, (x11.2.2.2.1, (x11.2.2.2.2.1, (x11.2.2.2.2.2.1, x11.2.2.2.2.2.2)))))) :: ([] : List ((Bool × (Int × (Bool × Int))) × (Int × ((List UInt8) × ((List UInt8) × (Int × (Bool × (List Int))))))))))) * 112) ≤ 140737488355328)) then 
 bindO (some ((List.take (List.length v9) v9) ++ (((x11.1.1, (x11.1.2.1, (x11.1.2.2.1, x11.1.2.2.2))), (x11.2.1, (x11.2.2.1, (x11.2.2.2.1, (x11.2.2.2.2.1, (x11.2.2.2.2.2.1, x11.2.2.2.2.2.2)))))) :: ([] : List ((Bool × (Int × (Bool × Int))) × (Int × ((List UInt8) × ((List UInt8) × (Int × (Bool × (List Int))))))))))) fun x15 =>
 bif ((decide ((List.length x15) ≤ (List.length x15))) && (decide ((List.length v10) ≤ (List.length v10)))) then 
 some (Sum.inl ((Go.IntKind.wrap .i64 (v8 + (1 : Int))), ((List.take (List.length x15) x15), (List.take (List.length v10) v10))))
 else none
 else none
 else none
 else none
 else
 outO (bif ((decide ((List.length v9) ≤ (List.length v9))) && (decide ((List.length v10) ≤ (List.length v10)))) then 
 some (Sum.inl ((List.take (List.length v9) v9), (List.take (List.length v10) v10)))
 else none)) ((0 : Int), (([] : List ((Bool × (Int × (Bool × Int))) × (Int × ((List UInt8) × ((List UInt8) × (Int × (Bool × (List Int)))))))), ([] : List ((Bool × (Int × (Bool × Int))) × (Int × ((List UInt8) × ((List UInt8) × (Int × (Bool × (List Int))))))))))) fun (v17, v18) =>
 bif ((decide ((List.length v18) ≤ (List.length v18))) && (decide ((List.length v17) ≤ (List.length v17)))) then 
 some (Sum.inl ((List.take (List.length v18) v18), (List.take (List.length v17) v17)))
 else none) fun (v19, v20) =>
 joinO (bif (decide (((0 : Int) ≤ (((List.length v19) : Nat) : Int)) ∧ (((((List.length v19) : Nat) : Int) ≤ (((List.length v19) : Nat) : Int)) ∧ ((((((List.length v19) : Nat) : Int) * (8 : Int)) ≤ (140737488355328 : Int)) ∧ ((((List.length v19) : Nat) : Int) ≤ (9223372036854775807 : Int)))))) then 
 joinO (loopO (fun (v21, v22) =>
 bif (decide (v21 < (((Int.toNat (((List.length v19) : Nat) : Int)) : Nat) : Int))) then
 bif (decide (((0 : Int) ≤ v21) ∧ (v21 < (((Int.toNat (((List.length v19) : Nat) : Int)) : Nat) : Int)))) then 
 bindO v22[(Int.toNat v21)]? fun x23 =>
 some (Sum.inl ((Go.IntKind.wrap .i64 (v21 + (1 : Int))), (List.set v22 (Int.toNat v21) v21)))
 else none
 else
 outO (some (Sum.inl v22))) ((0 : Int), (List.replicate (Int.toNat (((List.length v19) : Nat) : Int)) (0 : Int)))) fun v25 =>
 bif ((decide ((Int.toNat (((List.length v19) : Nat) : Int)) = (List.length v25))) && (decide ((List.length v19) = (List.length v19)))) then 
 bindO (slices_SortStableFunc___int_int (v25, v19)) fun x26 =>
 bif (decide (((0 : Int) ≤ (0 : Int)) ∧ (((0 : Int) ≤ (((List.length v19) : Nat) : Int)) ∧ ((((((List.length v19) : Nat) : Int) * (112 : Int)) ≤ (140737488355328 : Int)) ∧ ((((List.length v19) : Nat) : Int) ≤ (9223372036854775807 : Int)))))) then 
 joinO (bif (decide (0 ≤ (List.length (List.replicate (Int.toNat (((List.length v19) : Nat) : Int)) ((Bool.false, ((0 : Int), (Bool.false, (0 : Int)))), ((0 : Int), (([] : List UInt8), (([] : List UInt8), ((0 : Int), (Bool.false, ([] : List Int))))))))))) then 
 loopO (fun (v27, v28) =>
 bif (decide (v27 < (((Int.toNat (((List.length v19) : Nat) : Int)) : Nat) : Int))) then
 bif (decide (((0 : Int) ≤ v27) ∧ (v27 < (((Int.toNat (((List.length v19) : Nat) : Int)) : Nat) : Int)))) then 
 bindO x26[(Int.toNat v27)]? fun x29 =>
 bif (decide (((0 : Int) ≤ x29) ∧ (x29 < (((List.length v19) : Nat) : Int)))) then 
 bindO v19[(Int.toNat x29)]? fun x30 =>
 bif (decide ((List.length v28) ≤ (List.length v28))) then 
 bif (decide (((List.length ((List.take (List.length v28) v28) ++ (((x30.1.1, (x30.1.2.1, (x30.1.2.2.1, x30.1.2.2.2))), (x30.2.1, (x30.2.2.1, (x30.2.2.2.1, (x30.2.2.2.2.1, (x30.2.2.2.2.2.1, x30.2.2.2.2.2.2)))))) :: ([] : List ((Bool × (Int × (Bool × Int))) × (Int × ((List UInt8) × ((List UInt8) × (Int × (Bool × (List Int))))))))))) * 112) ≤ 140737488355328)) then 
 bindO (some ((List.take (List.length v28) v28) ++ (((x30.1.1, (x30.1.2.1, (x30.1.2.2.1, x30.1.2.2.2))), (x30.2.1, (x30.2.2.1, (x30.2.2.2.1, (x30.2.2.2.2.1, (x30.2.2.2.2.2.1, x30.2.2.2.2.2.2)))))) :: ([] : List ((Bool × (Int × (Bool × Int))) × (Int × ((List UInt8) × ((List UInt8) × (Int × (Bool × (List Int))))))))))) fun x31 =>
 bif (decide ((List.length x31) ≤ (List.length x31))) then 
 some (Sum.inl ((Go.IntKind.wrap .i64 (v27 + (1 : Int))), (List.take (List.length x31) x31)))
 else none
 else none
 else none
 else none
 else none
 else
 outO (bif (decide ((List.length v28) ≤ (List.length v28))) then 
 some (Sum.inl (List.take (List.length v28) v28))
 else none)) ((0 : Int), (List.take 0 (List.replicate (Int.toNat (((List.length v19) : Nat) : Int)) ((Bool.false, ((0 : Int), (Bool.false, (0 : Int)))), ((0 : Int), (([] : List UInt8), (([] : List UInt8), ((0 : Int), (Bool.false, ([] : List Int))))))))))
 else none) fun v33 =>
 bif (decide ((List.length v33) ≤ (List.length v33))) then 
 some (Sum.inl (List.take (List.length v33) v33))
 else none
 else none
 else none
 else none) fun v34 =>
 joinO (loopO (fun (v35, v36) =>
 bif (decide (v35 < (((List.length v34) : Nat) : Int))) then
 bif (decide (((0 : Int) ≤ v35) ∧ (v35 < (((List.length v34) : Nat) : Int)))) then 
 bindO v34[(Int.toNat v35)]? fun x37 =>
 bindO (carrier_parcel_at (x37.1.1, (x37.1.2.1, (x37.1.2.2.1, (x37.1.2.2.2, (x37.2.1, (x37.2.2.1, (x37.2.2.2.1, (x37.2.2.2.2.1, (x37.2.2.2.2.2.1, x37.2.2.2.2.2.2)))))))))) fun x38 =>
 bindO (cloneB x37.2.2.2.2.2.2) fun x39 =>
 bif (decide ((List.length x39) ≤ (List.length x39))) then 
 bif (decide ((List.length v36) ≤ (List.length v36))) then 
 bif (decide (((List.length ((List.take (List.length v36) v36) ++ ((x37.2.1, (x37.2.2.1, (x37.2.2.2.1, (x38, (List.take (List.length x39) x39))))) :: ([] : List (Int × ((List UInt8) × ((List UInt8) × (Int × (List Int))))))))) * 72) ≤ 140737488355328)) then 
 bindO (some ((List.take (List.length v36) v36) ++ ((x37.2.1, (x37.2.2.1, (x37.2.2.2.1, (x38, (List.take (List.length x39) x39))))) :: ([] : List (Int × ((List UInt8) × ((List UInt8) × (Int × (List Int))))))))) fun x40 =>
 bif (decide ((List.length x40) ≤ (List.length x40))) then 
 some (Sum.inl ((Go.IntKind.wrap .i64 (v35 + (1 : Int))), (List.take (List.length x40) x40)))
 else none
 else none
 else none
 else none
 else none
 else
 outO (bif (decide ((List.length v36) ≤ (List.length v36))) then 
 some (Sum.inl (List.take (List.length v36) v36))
 else none)) ((0 : Int), ([] : List (Int × ((List UInt8) × ((List UInt8) × (Int × (List Int)))))))) fun v42 =>
 bif ((decide ((List.length v42) ≤ (List.length v42))) && ((decide ((List.length a3) ≤ (List.length a3))) && (decide ((List.length v20) ≤ (List.length v20))))) then 
 some ((List.take (List.length v42) v42), ((0 : Int), (a2, ((List.take (List.length a3) a3), ((List.take (List.length v20) v20), (a5, (a6, a1)))))))
 else none
noncomputable def cons10 : List (Nat × CE) := (40, ⟨[.tmp 0 false [.dat (.list (.pair (.pair .bool (.pair (.int .i64) (.pair .bool (.int .i64)))) (.pair (.int .i64) (.pair .str (.pair .str (.pair (.int .i64) (.pair .bool (.list (.int .u8)))))))))]], [.tmp 0 false [.own 1 67 (.pair (.pair .bool (.pair (.int .i64) (.pair .bool (.int .i64)))) (.pair (.int .i64) (.pair .str (.pair .str (.pair (.int .i64) (.pair .bool (.list (.int .u8))))))))]], cloneG⟩) :: (30, ⟨[.tmp 0 false [.dat (.list (.int .u8))]], [.tmp 0 false [.own 1 5 (.int .u8)]], cloneB⟩) :: (28, ⟨[.tmp 0 false [.dat (.list (.pair .bool (.pair (.int .i64) (.pair .bool (.int .i64)))))]], [.tmp 0 false [.own 1 37 (.pair .bool (.pair (.int .i64) (.pair .bool (.int .i64))))]], cloneG⟩) :: (43, ⟨[.tmp 0 false [.own 20000003 3 (.int .i64)], .tmp 1 false [.cl 35 [(20000001, 0)]], .mix 20000001 [.own 20000002 67 UPc]], [.row 20000003 3 (.int .i64)], slices_SortStableFunc___int_int⟩) :: cons43
theorem cons10_ok : ConL Try.prog cons10 := ⟨clone_con40, ⟨clone_con30, ⟨clone_con28, ⟨con43, cons43_ok⟩⟩⟩⟩
theorem con10 : ConOk Try.prog 10 ⟨[.tmp 0 false [.pt 20000010 0], .tmp 1 false [.dat (.int .i64)], .mix 20000010 [.dat .bool, .own 20000012 37 UFt, .own 20000011 67 UPc, .dat (.int .i64), .dat (.int .i64), .dat (.int .i64)]], [.tmp 0 false [(.own 10000014 40 (.pair (.int .i64) (.pair .str (.pair .str (.pair (.int .i64) (.list (.int .u8)))))))], .tmp 1 false [(.dat (.int .u8))], .mix 20000010 [(.dat .bool), (.own 10000010 37 (.pair .bool (.pair (.int .i64) (.pair .bool (.int .i64))))), (.own 10000011 67 (.pair (.pair .bool (.pair (.int .i64) (.pair .bool (.int .i64)))) (.pair (.int .i64) (.pair .str (.pair .str (.pair (.int .i64) (.pair .bool (.list (.int .u8))))))))), (.dat (.int .i64)), (.dat (.int .i64)), (.dat (.int .i64))], .dead 20000011, .dead 20000012], carrier_Carrier_Receive⟩ :=
  conS_ok (tree_okS (plan := planOf plan10) (eg := egNo) KK tabL_ok (conOf_ok cons10_ok) Try.func10 (by kernel_rfl) (by kernel_rfl) 10000 (fun a r h => Eq.trans (show _ = carrier_Carrier_Receive a from by kernel_rfl) h)) (by rfl)
def plan9 : List (Nat × PL) := [(18049651735527937, (.carry [.mix 40 [(.dat .bool), (.dat (.int .i64)), (.dat .bool), (.dat (.int .i64)), (.dat (.int .i64)), (.dat .str), (.dat .str), (.dat (.int .i64)), (.dat .bool), (.own 10000001 5 (.int .u8))], .dead 42]))]
noncomputable def carrier_Carrier_Send : ((List UInt8) × ((List UInt8) × ((List Int) × (Int × (Bool × ((List (Bool × (Int × (Bool × Int)))) × ((List ((Bool × (Int × (Bool × Int))) × (Int × ((List UInt8) × ((List UInt8) × (Int × (Bool × (List Int)))))))) × (Int × (Int × Int))))))))) → Option (Int × (Int × (Bool × ((List (Bool × (Int × (Bool × Int)))) × ((List ((Bool × (Int × (Bool × Int))) × (Int × ((List UInt8) × ((List UInt8) × (Int × (Bool × (List Int)))))))) × (Int × (Int × Int))))))) := fun (a1, (a2, (a3, (a4, (a5, (a6, (a7, (a8, (a9, a10))))))))) =>
 bif (!a5) then
 bif ((decide ((List.length a6) ≤ (List.length a6))) && (decide ((List.length a7) ≤ (List.length a7)))) then 
 some ((0 : Int), ((1 : Int), (a5, ((List.take (List.length a6) a6), ((List.take (List.length a7) a7), (a8, (a9, a10)))))))
 else none
 else
 bif (decide (a4 < a10)) then
 bif ((decide ((List.length a6) ≤ (List.length a6))) && (decide ((List.length a7) ≤ (List.length a7)))) then 
 some ((0 : Int), ((3 : Int), (a5, ((List.take (List.length a6) a6), ((List.take (List.length a7) a7), (a8, (a9, a10)))))))
 else none
 else
 bif (decide (a4 > (1099511627776 : Int))) then
 bif ((decide ((List.length a6) ≤ (List.length a6))) && (decide ((List.length a7) ≤ (List.length a7)))) then 
 some ((0 : Int), ((3 : Int), (a5, ((List.take (List.length a6) a6), ((List.take (List.length a7) a7), (a8, (a9, a10)))))))
 else none
 else
 bif (decide (a8 ≥ (10000 : Int))) then
 bif ((decide ((List.length a6) ≤ (List.length a6))) && (decide ((List.length a7) ≤ (List.length a7)))) then 
 some ((0 : Int), ((4 : Int), (a5, ((List.take (List.length a6) a6), ((List.take (List.length a7) a7), (a8, (a9, a10)))))))
 else none
 else
 bindO (cloneB a3) fun x11 =>
 joinO (bif (decide (a8 < (((List.length a6) : Nat) : Int))) then
 bif (decide (((0 : Int) ≤ a8) ∧ (a8 < (((List.length a6) : Nat) : Int)))) then 
 bindO a6[(Int.toNat a8)]? fun x12 =>
 bif (decide ((List.length x11) ≤ (List.length x11))) then 
 some (Sum.inl (x12.1, (x12.2.1, (x12.2.2.1, (x12.2.2.2, (a8, (a1, (a2, (a4, (Bool.false, (List.take (List.length x11) x11)))))))))))
 else none
 else none
 else
 bif (decide ((List.length x11) ≤ (List.length x11))) then 
 some (Sum.inl (Bool.false, ((0 : Int), (Bool.false, ((0 : Int), (a8, (a1, (a2, (a4, (Bool.false, (List.take (List.length x11) x11)))))))))))
 else none) fun (v13, (v14, (v15, (v16, (v17, (v18, (v19, (v20, (v21, v22))))))))) =>
 bindO (some (Go.IntKind.wrap .i64 (a8 + (1 : Int)))) fun x23 =>
 bif v13 then
 bif ((decide ((List.length a6) ≤ (List.length a6))) && (decide ((List.length a7) ≤ (List.length a7)))) then 
 some (v17, ((0 : Int), (a5, ((List.take (List.length a6) a6), ((List.take (List.length a7) a7), (x23, ((Go.IntKind.wrap .i64 (a9 + (1 : Int))), a4)))))))
 else none
 else
 bif (decide ((List.length v22) ≤ (List.length v22))) then 
 bif (decide ((List.length a7) ≤ (List.length a7))) then 
 bif (decide (((List.length ((List.take (List.length a7) a7) ++ (((v13, (v14, (v15, v16))), (v17, (v18, (v19, (v20, (v21, (List.take (List.length v22) v22))))))) :: ([] : List ((Bool × (Int × (Bool × Int))) × (Int × ((List UInt8) × ((List UInt8) × (Int × (Bool × (List Int))))))))))) * 112) ≤ 140737488355328)) then 
 bindO (some ((List.take (List.length a7) a7) ++ (((v13, (v14, (v15, v16))), (v17, (v18, (v19, (v20, (v21, (List.take (List.length v22) v22))))))) :: ([] : List ((Bool × (Int × (Bool × Int))) × (Int × ((List UInt8) × ((List UInt8) × (Int × (Bool × (List Int))))))))))) fun x25 =>
 bif v15 then
 bif (decide ((List.length v22) ≤ (List.length v22))) then 
 bif (decide ((List.length x25) ≤ (List.length x25))) then 
 bif (decide (((List.length ((List.take (List.length x25) x25) ++ (((v13, (v14, (v15, v16))), (v17, (v18, (v19, (v20, (Bool.true, (List.take (List.length v22) v22))))))) :: ([] : List ((Bool × (Int × (Bool × Int))) × (Int × ((List UInt8) × ((List UInt8) × (Int × (Bool × (List Int))))))))))) * 112) ≤ 140737488355328)) then 
 bindO (some ((List.take (List.length x25) x25) ++ (((v13, (v14, (v15, v16))), (v17, (v18, (v19, (v20, (Bool.true, (List.take (List.length v22) v22))))))) :: ([] : List ((Bool × (Int × (Bool × Int))) × (Int × ((List UInt8) × ((List UInt8) × (Int × (Bool × (List Int))))))))))) fun x26 =>
 bif ((decide ((List.length a6) ≤ (List.length a6))) && (decide ((List.length x26) ≤ (List.length x26)))) then 
 some (v17, ((0 : Int), (a5, ((List.take (List.length a6) a6), ((List.take (List.length x26) x26), (x23, (a9, a4)))))))
 else none
 else none
 else none
 else none
 else
 bif ((decide ((List.length a6) ≤ (List.length a6))) && (decide ((List.length x25) ≤ (List.length x25)))) then 
 some (v17, ((0 : Int), (a5, ((List.take (List.length a6) a6), ((List.take (List.length x25) x25), (x23, (a9, a4)))))))
 else none
 else none
 else none
 else none
noncomputable def cons9 : List (Nat × CE) := (10, ⟨[.tmp 0 false [.pt 20000010 0], .tmp 1 false [.dat (.int .i64)], .mix 20000010 [.dat .bool, .own 20000012 37 UFt, .own 20000011 67 UPc, .dat (.int .i64), .dat (.int .i64), .dat (.int .i64)]], [.tmp 0 false [(.own 10000014 40 (.pair (.int .i64) (.pair .str (.pair .str (.pair (.int .i64) (.list (.int .u8)))))))], .tmp 1 false [(.dat (.int .u8))], .mix 20000010 [(.dat .bool), (.own 10000010 37 (.pair .bool (.pair (.int .i64) (.pair .bool (.int .i64))))), (.own 10000011 67 (.pair (.pair .bool (.pair (.int .i64) (.pair .bool (.int .i64)))) (.pair (.int .i64) (.pair .str (.pair .str (.pair (.int .i64) (.pair .bool (.list (.int .u8))))))))), (.dat (.int .i64)), (.dat (.int .i64)), (.dat (.int .i64))], .dead 20000011, .dead 20000012], carrier_Carrier_Receive⟩) :: cons10
theorem cons9_ok : ConL Try.prog cons9 := ⟨con10, cons10_ok⟩
theorem con9 : ConOk Try.prog 9 ⟨[.tmp 0 false [.pt 20000010 0], .tmp 1 false [.dat .str], .tmp 2 false [.dat .str], .tmp 3 false [.dat (.list (.int .u8))], .tmp 4 false [.dat (.int .i64)], .mix 20000010 [.dat .bool, .own 20000012 37 UFt, .own 20000011 67 UPc, .dat (.int .i64), .dat (.int .i64), .dat (.int .i64)]], [.tmp 0 false [(.dat (.int .i64))], .tmp 1 false [(.dat (.int .u8))], .mix 20000010 [(.dat .bool), (.own 10000002 37 (.pair .bool (.pair (.int .i64) (.pair .bool (.int .i64))))), (.own 10000003 67 (.pair (.pair .bool (.pair (.int .i64) (.pair .bool (.int .i64)))) (.pair (.int .i64) (.pair .str (.pair .str (.pair (.int .i64) (.pair .bool (.list (.int .u8))))))))), (.dat (.int .i64)), (.dat (.int .i64)), (.dat (.int .i64))], .dead 20000011, .dead 20000012], carrier_Carrier_Send⟩ :=
  conS_ok (tree_okS (plan := planOf plan9) (eg := egNo) KK tabL_ok (conOf_ok cons9_ok) Try.func9 (by kernel_rfl) (by kernel_rfl) 10000 (fun a r h => Eq.trans (show _ = carrier_Carrier_Send a from by kernel_rfl) h)) (by rfl)
def plan20 : List (Nat × PL) := [(68853957121, (.carry [.tmp 4 false [(.dat (.int .i64))]])), (9241421688456087558, (.carry [.tmp 29 false [(.dat (.int .i64))], .tmp 4 false [(.dat (.int .i64))]]))]
noncomputable def carrier_Carrier_Next : (Bool × ((List (Bool × (Int × (Bool × Int)))) × ((List ((Bool × (Int × (Bool × Int))) × (Int × ((List UInt8) × ((List UInt8) × (Int × (Bool × (List Int)))))))) × (Int × (Int × Int))))) → Option (Int × Bool) := fun (a1, (a2, (a3, (a4, (a5, a6))))) =>
 bif (!a1) then
 some ((0 : Int), Bool.false)
 else
 bif (decide ((((List.length a3) : Nat) : Int) = (0 : Int))) then
 some ((0 : Int), Bool.false)
 else
 bif (decide (((0 : Int) ≤ (0 : Int)) ∧ ((0 : Int) < (((List.length a3) : Nat) : Int)))) then 
 bindO a3[0]? fun x7 =>
 bindO (carrier_parcel_at (x7.1.1, (x7.1.2.1, (x7.1.2.2.1, (x7.1.2.2.2, (x7.2.1, (x7.2.2.1, (x7.2.2.2.1, (x7.2.2.2.2.1, (x7.2.2.2.2.2.1, x7.2.2.2.2.2.2)))))))))) fun x8 =>
 joinO (loopO (fun (v9, v10) =>
 bif (decide (v9 < (((List.length a3) : Nat) : Int))) then
 bif (decide (((0 : Int) ≤ v9) ∧ (v9 < (((List.length a3) : Nat) : Int)))) then 
 bindO a3[(Int.toNat v9)]? fun x11 =>
 bindO (carrier_parcel_at (x11.1.1, (x11.1.2.1, (x11.1.2.2.1, (x11.1.2.2.2, (x11.2.1, (x11.2.2.1, (x11.2.2.2.1, (x11.2.2.2.2.1, (x11.2.2.2.2.2.1, x11.2.2.2.2.2.2)))))))))) fun x12 =>
 some (Sum.inl ((Go.IntKind.wrap .i64 (v9 + (1 : Int))), (minA v10 x12)))
 else none
 else
 outO (some (Sum.inl v10))) ((0 : Int), x8)) fun v14 =>
 some (v14, Bool.true)
 else none
noncomputable def cons20 : List (Nat × CE) := (9, ⟨[.tmp 0 false [.pt 20000010 0], .tmp 1 false [.dat .str], .tmp 2 false [.dat .str], .tmp 3 false [.dat (.list (.int .u8))], .tmp 4 false [.dat (.int .i64)], .mix 20000010 [.dat .bool, .own 20000012 37 UFt, .own 20000011 67 UPc, .dat (.int .i64), .dat (.int .i64), .dat (.int .i64)]], [.tmp 0 false [(.dat (.int .i64))], .tmp 1 false [(.dat (.int .u8))], .mix 20000010 [(.dat .bool), (.own 10000002 37 (.pair .bool (.pair (.int .i64) (.pair .bool (.int .i64))))), (.own 10000003 67 (.pair (.pair .bool (.pair (.int .i64) (.pair .bool (.int .i64)))) (.pair (.int .i64) (.pair .str (.pair .str (.pair (.int .i64) (.pair .bool (.list (.int .u8))))))))), (.dat (.int .i64)), (.dat (.int .i64)), (.dat (.int .i64))], .dead 20000011, .dead 20000012], carrier_Carrier_Send⟩) :: cons9
theorem cons20_ok : ConL Try.prog cons20 := ⟨con9, cons9_ok⟩
theorem con20 : ConOk Try.prog 20 ⟨[.tmp 0 false [.pt 20000010 0], .mix 20000010 [.dat .bool, .own 20000012 37 UFt, .own 20000011 67 UPc, .dat (.int .i64), .dat (.int .i64), .dat (.int .i64)]], [.tmp 0 false [(.dat (.int .i64))], .tmp 1 false [(.dat .bool)]], carrier_Carrier_Next⟩ :=
  conS_ok (tree_okS (plan := planOf plan20) (eg := egNo) KK tabL_ok (conOf_ok cons20_ok) Try.func20 (by kernel_rfl) (by kernel_rfl) 10000 (fun a r h => Eq.trans (show _ = carrier_Carrier_Next a from by kernel_rfl) h)) (by rfl)
def plan11 : List (Nat × PL) := []
noncomputable def carrier_Carrier_Waiting : (Bool × ((List (Bool × (Int × (Bool × Int)))) × ((List ((Bool × (Int × (Bool × Int))) × (Int × ((List UInt8) × ((List UInt8) × (Int × (Bool × (List Int)))))))) × (Int × (Int × Int))))) → Option Int := fun (a1, (a2, (a3, (a4, (a5, a6))))) =>
 bif (!a1) then
 some (0 : Int)
 else
 some (((List.length a3) : Nat) : Int)
noncomputable def cons11 : List (Nat × CE) := (20, ⟨[.tmp 0 false [.pt 20000010 0], .mix 20000010 [.dat .bool, .own 20000012 37 UFt, .own 20000011 67 UPc, .dat (.int .i64), .dat (.int .i64), .dat (.int .i64)]], [.tmp 0 false [(.dat (.int .i64))], .tmp 1 false [(.dat .bool)]], carrier_Carrier_Next⟩) :: cons20
theorem cons11_ok : ConL Try.prog cons11 := ⟨con20, cons20_ok⟩
theorem con11 : ConOk Try.prog 11 ⟨[.tmp 0 false [.pt 20000010 0], .mix 20000010 [.dat .bool, .own 20000012 37 UFt, .own 20000011 67 UPc, .dat (.int .i64), .dat (.int .i64), .dat (.int .i64)]], [.tmp 0 false [(.dat (.int .i64))]], carrier_Carrier_Waiting⟩ :=
  conS_ok (tree_okS (plan := planOf plan11) (eg := egNo) KK tabL_ok (conOf_ok cons11_ok) Try.func11 (by kernel_rfl) (by kernel_rfl) 10000 (fun a r h => Eq.trans (show _ = carrier_Carrier_Waiting a from by kernel_rfl) h)) (by rfl)
def plan15 : List (Nat × PL) := []
noncomputable def carrier_Carrier_Sent : (Bool × ((List (Bool × (Int × (Bool × Int)))) × ((List ((Bool × (Int × (Bool × Int))) × (Int × ((List UInt8) × ((List UInt8) × (Int × (Bool × (List Int)))))))) × (Int × (Int × Int))))) → Option Int := fun (a1, (a2, (a3, (a4, (a5, a6))))) =>
 bif (!a1) then
 some (0 : Int)
 else
 some a4
noncomputable def cons15 : List (Nat × CE) := (11, ⟨[.tmp 0 false [.pt 20000010 0], .mix 20000010 [.dat .bool, .own 20000012 37 UFt, .own 20000011 67 UPc, .dat (.int .i64), .dat (.int .i64), .dat (.int .i64)]], [.tmp 0 false [(.dat (.int .i64))]], carrier_Carrier_Waiting⟩) :: cons11
theorem cons15_ok : ConL Try.prog cons15 := ⟨con11, cons11_ok⟩
theorem con15 : ConOk Try.prog 15 ⟨[.tmp 0 false [.pt 20000010 0], .mix 20000010 [.dat .bool, .own 20000012 37 UFt, .own 20000011 67 UPc, .dat (.int .i64), .dat (.int .i64), .dat (.int .i64)]], [.tmp 0 false [(.dat (.int .i64))]], carrier_Carrier_Sent⟩ :=
  conS_ok (tree_okS (plan := planOf plan15) (eg := egNo) KK tabL_ok (conOf_ok cons15_ok) Try.func15 (by kernel_rfl) (by kernel_rfl) 10000 (fun a r h => Eq.trans (show _ = carrier_Carrier_Sent a from by kernel_rfl) h)) (by rfl)
def plan16 : List (Nat × PL) := []
noncomputable def carrier_Carrier_Lost : (Bool × ((List (Bool × (Int × (Bool × Int)))) × ((List ((Bool × (Int × (Bool × Int))) × (Int × ((List UInt8) × ((List UInt8) × (Int × (Bool × (List Int)))))))) × (Int × (Int × Int))))) → Option Int := fun (a1, (a2, (a3, (a4, (a5, a6))))) =>
 bif (!a1) then
 some (0 : Int)
 else
 some a5
noncomputable def cons16 : List (Nat × CE) := (15, ⟨[.tmp 0 false [.pt 20000010 0], .mix 20000010 [.dat .bool, .own 20000012 37 UFt, .own 20000011 67 UPc, .dat (.int .i64), .dat (.int .i64), .dat (.int .i64)]], [.tmp 0 false [(.dat (.int .i64))]], carrier_Carrier_Sent⟩) :: cons15
theorem cons16_ok : ConL Try.prog cons16 := ⟨con15, cons15_ok⟩
theorem con16 : ConOk Try.prog 16 ⟨[.tmp 0 false [.pt 20000010 0], .mix 20000010 [.dat .bool, .own 20000012 37 UFt, .own 20000011 67 UPc, .dat (.int .i64), .dat (.int .i64), .dat (.int .i64)]], [.tmp 0 false [(.dat (.int .i64))]], carrier_Carrier_Lost⟩ :=
  conS_ok (tree_okS (plan := planOf plan16) (eg := egNo) KK tabL_ok (conOf_ok cons16_ok) Try.func16 (by kernel_rfl) (by kernel_rfl) 10000 (fun a r h => Eq.trans (show _ = carrier_Carrier_Lost a from by kernel_rfl) h)) (by rfl)
def plan19 : List (Nat × PL) := []
noncomputable def carrier_Carrier_Now : (Bool × ((List (Bool × (Int × (Bool × Int)))) × ((List ((Bool × (Int × (Bool × Int))) × (Int × ((List UInt8) × ((List UInt8) × (Int × (Bool × (List Int)))))))) × (Int × (Int × Int))))) → Option Int := fun (a1, (a2, (a3, (a4, (a5, a6))))) =>
 bif (!a1) then
 some (0 : Int)
 else
 some a6
noncomputable def cons19 : List (Nat × CE) := (16, ⟨[.tmp 0 false [.pt 20000010 0], .mix 20000010 [.dat .bool, .own 20000012 37 UFt, .own 20000011 67 UPc, .dat (.int .i64), .dat (.int .i64), .dat (.int .i64)]], [.tmp 0 false [(.dat (.int .i64))]], carrier_Carrier_Lost⟩) :: cons16
theorem cons19_ok : ConL Try.prog cons19 := ⟨con16, cons16_ok⟩
theorem con19 : ConOk Try.prog 19 ⟨[.tmp 0 false [.pt 20000010 0], .mix 20000010 [.dat .bool, .own 20000012 37 UFt, .own 20000011 67 UPc, .dat (.int .i64), .dat (.int .i64), .dat (.int .i64)]], [.tmp 0 false [(.dat (.int .i64))]], carrier_Carrier_Now⟩ :=
  conS_ok (tree_okS (plan := planOf plan19) (eg := egNo) KK tabL_ok (conOf_ok cons19_ok) Try.func19 (by kernel_rfl) (by kernel_rfl) 10000 (fun a r h => Eq.trans (show _ = carrier_Carrier_Now a from by kernel_rfl) h)) (by rfl)
def plan18 : List (Nat × PL) := []
noncomputable def dialtonelaw11_datagram : ((Int × ((List UInt8) × ((List UInt8) × (Int × (List Int))))) × (Int × (Int × (List UInt8)))) → Option Bool := fun ((a1, (a2, (a3, (a4, a5)))), (a6, (a7, a8))) =>
 bif (decide (a1 = a6)) then
 bif (decide (a4 = a7)) then
 some (decide ((bytesU a5) = a8))
 else
 some Bool.false
 else
 some Bool.false
noncomputable def cons18 : List (Nat × CE) := (19, ⟨[.tmp 0 false [.pt 20000010 0], .mix 20000010 [.dat .bool, .own 20000012 37 UFt, .own 20000011 67 UPc, .dat (.int .i64), .dat (.int .i64), .dat (.int .i64)]], [.tmp 0 false [(.dat (.int .i64))]], carrier_Carrier_Now⟩) :: cons19
theorem cons18_ok : ConL Try.prog cons18 := ⟨con19, cons19_ok⟩
theorem con18 : ConOk Try.prog 18 ⟨[(.tmp 0 true [(.dat (.int .i64)), (.dat .str), (.dat .str), (.dat (.int .i64)), (.dat (.list (.int .u8)))]), (.tmp 1 false [(.dat (.int .i64))]), (.tmp 2 false [(.dat (.int .i64))]), (.tmp 3 false [(.dat .str)])], [(.tmp 0 false [(.dat .bool)])], dialtonelaw11_datagram⟩ :=
  tree_ok (plan := planOf plan18) (eg := egNo) KK tabL_ok (conOf_ok cons18_ok) Try.func18 (by kernel_rfl) (by kernel_rfl) 10000 (fun a r h => Eq.trans (show _ = dialtonelaw11_datagram a from by kernel_rfl) h)
def plan12 : List (Nat × PL) := [(262657, (.carry [])), (35253091829766, (.carry [.tmp 9 false [(.dat (.int .i64))]]))]
noncomputable def dialtonelaw11_has : ((List (Int × ((List UInt8) × ((List UInt8) × (Int × (List Int)))))) × (Int × (Int × Int))) → Option Bool := fun (a1, (a2, (a3, a4))) =>
 joinO (loopO (fun v5 =>
 bif (decide (v5 < (((List.length a1) : Nat) : Int))) then
 bif (decide (((0 : Int) ≤ v5) ∧ (v5 < (((List.length a1) : Nat) : Int)))) then 
 bindO a1[(Int.toNat v5)]? fun x6 =>
 bindO (dialtonelaw11_datagram ((x6.1, (x6.2.1, (x6.2.2.1, (x6.2.2.2.1, x6.2.2.2.2)))), (a2, (a3, (bytesU ((Go.IntKind.wrap .u8 a2) :: (a4 :: ([] : List Int)))))))) fun x8 =>
 bif x8 then
 bif (decide (((0 : Int) ≤ v5) ∧ (v5 < (((List.length a1) : Nat) : Int)))) then 
 bindO a1[(Int.toNat v5)]? fun x9 =>
 bif (decide (x9.2.1 = ((97 : UInt8) :: ([] : List UInt8)))) then
 bif (decide (((0 : Int) ≤ v5) ∧ (v5 < (((List.length a1) : Nat) : Int)))) then 
 bindO a1[(Int.toNat v5)]? fun x10 =>
 bif (decide (x10.2.2.1 = ((98 : UInt8) :: ([] : List UInt8)))) then
 outO (outO (some Bool.true))
 else
 some (Sum.inl (Go.IntKind.wrap .i64 (v5 + (1 : Int))))
 else none
 else
 some (Sum.inl (Go.IntKind.wrap .i64 (v5 + (1 : Int))))
 else none
 else
 some (Sum.inl (Go.IntKind.wrap .i64 (v5 + (1 : Int))))
 else none
 else
 outO (some (Sum.inl ()))) (0 : Int)) fun _ =>
 some Bool.false
noncomputable def cons12 : List (Nat × CE) := (18, ⟨[(.tmp 0 true [(.dat (.int .i64)), (.dat .str), (.dat .str), (.dat (.int .i64)), (.dat (.list (.int .u8)))]), (.tmp 1 false [(.dat (.int .i64))]), (.tmp 2 false [(.dat (.int .i64))]), (.tmp 3 false [(.dat .str)])], [(.tmp 0 false [(.dat .bool)])], dialtonelaw11_datagram⟩) :: cons18
theorem cons12_ok : ConL Try.prog cons12 := ⟨con18, cons18_ok⟩
theorem con12 : ConOk Try.prog 12 ⟨[(.tmp 0 false [(.dat (.list (.pair (.int .i64) (.pair .str (.pair .str (.pair (.int .i64) (.list (.int .u8))))))))]), (.tmp 1 false [(.dat (.int .i64))]), (.tmp 2 false [(.dat (.int .i64))]), (.tmp 3 false [(.dat (.int .u8))])], [(.tmp 0 false [(.dat .bool)])], dialtonelaw11_has⟩ :=
  tree_ok (plan := planOf plan12) (eg := egNo) KK tabL_ok (conOf_ok cons12_ok) Try.func12 (by kernel_rfl) (by kernel_rfl) 10000 (fun a r h => Eq.trans (show _ = dialtonelaw11_has a from by kernel_rfl) h)
def plan13 : List (Nat × PL) := [(262657, (.carry [])), (35253091829766, (.carry [.tmp 5 false [(.dat (.int .i64))]]))]
noncomputable def dialtonelaw11_alike : ((List (Int × ((List UInt8) × ((List UInt8) × (Int × (List Int)))))) × (List (Int × ((List UInt8) × ((List UInt8) × (Int × (List Int))))))) → Option Bool := fun (a1, a2) =>
 joinO (loopO (fun v3 =>
 bif (decide (v3 < (((List.length a1) : Nat) : Int))) then
 bif (decide (v3 < (((List.length a2) : Nat) : Int))) then
 bif (decide (((0 : Int) ≤ v3) ∧ (v3 < (((List.length a1) : Nat) : Int)))) then 
 bindO a1[(Int.toNat v3)]? fun x4 =>
 bif (decide (((0 : Int) ≤ v3) ∧ (v3 < (((List.length a2) : Nat) : Int)))) then 
 bindO a2[(Int.toNat v3)]? fun x5 =>
 bif (decide (x4.1 ≠ x5.1)) then
 outO (outO (some Bool.false))
 else
 bif (decide (((0 : Int) ≤ v3) ∧ (v3 < (((List.length a1) : Nat) : Int)))) then 
 bindO a1[(Int.toNat v3)]? fun x6 =>
 bif (decide (((0 : Int) ≤ v3) ∧ (v3 < (((List.length a2) : Nat) : Int)))) then 
 bindO a2[(Int.toNat v3)]? fun x7 =>
 bif (decide (x6.2.2.2.1 ≠ x7.2.2.2.1)) then
 outO (outO (some Bool.false))
 else
 bif (decide (((0 : Int) ≤ v3) ∧ (v3 < (((List.length a1) : Nat) : Int)))) then 
 bindO a1[(Int.toNat v3)]? fun x8 =>
 bif (decide (((0 : Int) ≤ v3) ∧ (v3 < (((List.length a2) : Nat) : Int)))) then 
 bindO a2[(Int.toNat v3)]? fun x9 =>
 bif (decide ((bytesU x8.2.2.2.2) ≠ (bytesU x9.2.2.2.2))) then
 outO (outO (some Bool.false))
 else
 some (Sum.inl (Go.IntKind.wrap .i64 (v3 + (1 : Int))))
 else none
 else none
 else none
 else none
 else none
 else none
 else
 outO (some (Sum.inl ()))
 else
 outO (some (Sum.inl ()))) (0 : Int)) fun _ =>
 some (decide ((((List.length a1) : Nat) : Int) = (((List.length a2) : Nat) : Int)))
noncomputable def cons13 : List (Nat × CE) := (12, ⟨[(.tmp 0 false [(.dat (.list (.pair (.int .i64) (.pair .str (.pair .str (.pair (.int .i64) (.list (.int .u8))))))))]), (.tmp 1 false [(.dat (.int .i64))]), (.tmp 2 false [(.dat (.int .i64))]), (.tmp 3 false [(.dat (.int .u8))])], [(.tmp 0 false [(.dat .bool)])], dialtonelaw11_has⟩) :: cons12
theorem cons13_ok : ConL Try.prog cons13 := ⟨con12, cons12_ok⟩
theorem con13 : ConOk Try.prog 13 ⟨[(.tmp 0 false [(.dat (.list (.pair (.int .i64) (.pair .str (.pair .str (.pair (.int .i64) (.list (.int .u8))))))))]), (.tmp 1 false [(.dat (.list (.pair (.int .i64) (.pair .str (.pair .str (.pair (.int .i64) (.list (.int .u8))))))))])], [(.tmp 0 false [(.dat .bool)])], dialtonelaw11_alike⟩ :=
  tree_ok (plan := planOf plan13) (eg := egNo) KK tabL_ok (conOf_ok cons13_ok) Try.func13 (by kernel_rfl) (by kernel_rfl) 10000 (fun a r h => Eq.trans (show _ = dialtonelaw11_alike a from by kernel_rfl) h)
def plan7 : List (Nat × PL) := [(134480385, (.carry [.tmp 3 false [(.own 10000002 37 (.pair .bool (.pair (.int .i64) (.pair .bool (.int .i64)))))]])), (18049651601311750, (.carry [.tmp 4 false [(.dat (.int .i64))], .tmp 3 false [(.own 10000001 37 (.pair .bool (.pair (.int .i64) (.pair .bool (.int .i64)))))]]))]
noncomputable def dialtonelaw11_fit : (List (Bool × (Int × (Bool × Int)))) → Option (List (Bool × (Int × (Bool × Int)))) := fun a1 =>
 joinO (loopO (fun (v2, v3) =>
 bif (decide (v2 < (((List.length a1) : Nat) : Int))) then
 bif (decide (v2 < (40 : Int))) then
 bif (decide (((0 : Int) ≤ v2) ∧ (v2 < (((List.length a1) : Nat) : Int)))) then 
 bindO a1[(Int.toNat v2)]? fun x4 =>
 bindO (some (Int.tmod (Go.IntKind.wrap .u64 x4.2.1) (500 : Int))) fun x6 =>
 bindO (some (Int.tmod (Go.IntKind.wrap .u64 x4.2.2.2) (500 : Int))) fun x9 =>
 bif (decide ((List.length v3) ≤ (List.length v3))) then 
 bif (decide (((List.length ((List.take (List.length v3) v3) ++ ((x4.1, ((Go.IntKind.wrap .i64 x6), (x4.2.2.1, (Go.IntKind.wrap .i64 x9)))) :: ([] : List (Bool × (Int × (Bool × Int))))))) * 32) ≤ 140737488355328)) then 
 bindO (some ((List.take (List.length v3) v3) ++ ((x4.1, ((Go.IntKind.wrap .i64 x6), (x4.2.2.1, (Go.IntKind.wrap .i64 x9)))) :: ([] : List (Bool × (Int × (Bool × Int))))))) fun x11 =>
 bif (decide ((List.length x11) ≤ (List.length x11))) then 
 some (Sum.inl ((Go.IntKind.wrap .i64 (v2 + (1 : Int))), (List.take (List.length x11) x11)))
 else none
 else none
 else none
 else none
 else
 outO (bif (decide ((List.length v3) ≤ (List.length v3))) then 
 some (Sum.inl (List.take (List.length v3) v3))
 else none)
 else
 outO (bif (decide ((List.length v3) ≤ (List.length v3))) then 
 some (Sum.inl (List.take (List.length v3) v3))
 else none)) ((0 : Int), ([] : List (Bool × (Int × (Bool × Int)))))) fun v13 =>
 bif (decide ((List.length v13) ≤ (List.length v13))) then 
 some (List.take (List.length v13) v13)
 else none
noncomputable def cons7 : List (Nat × CE) := (13, ⟨[(.tmp 0 false [(.dat (.list (.pair (.int .i64) (.pair .str (.pair .str (.pair (.int .i64) (.list (.int .u8))))))))]), (.tmp 1 false [(.dat (.list (.pair (.int .i64) (.pair .str (.pair .str (.pair (.int .i64) (.list (.int .u8))))))))])], [(.tmp 0 false [(.dat .bool)])], dialtonelaw11_alike⟩) :: cons13
theorem cons7_ok : ConL Try.prog cons7 := ⟨con13, cons13_ok⟩
theorem con7 : ConOk Try.prog 7 ⟨[(.tmp 0 false [(.dat (.list (.pair .bool (.pair (.int .i64) (.pair .bool (.int .i64))))))])], [(.tmp 0 false [(.dat (.list (.pair .bool (.pair (.int .i64) (.pair .bool (.int .i64))))))])], dialtonelaw11_fit⟩ :=
  tree_ok (plan := planOf plan7) (eg := egNo) KK tabL_ok (conOf_ok cons7_ok) Try.func7 (by kernel_rfl) (by kernel_rfl) 10000 (fun a r h => Eq.trans (show _ = dialtonelaw11_fit a from by kernel_rfl) h)
def plan26 : List (Nat × PL) := [(134480385, (.carry [])), (18049651601311750, (.carry [.tmp 5 false [(.dat (.int .i64))]]))]
noncomputable def dialtoneref11_Same : ((List (Int × ((List UInt8) × ((List UInt8) × (Int × (List Int)))))) × (List (Int × ((List UInt8) × ((List UInt8) × (Int × (List Int))))))) → Option Bool := fun (a1, a2) =>
 bif (decide ((((List.length a1) : Nat) : Int) ≠ (((List.length a2) : Nat) : Int))) then
 some Bool.false
 else
 joinO (loopO (fun v3 =>
 bif (decide (v3 < (((List.length a1) : Nat) : Int))) then
 bif (decide (((0 : Int) ≤ v3) ∧ (v3 < (((List.length a1) : Nat) : Int)))) then 
 bindO a1[(Int.toNat v3)]? fun x4 =>
 bif (decide (((0 : Int) ≤ v3) ∧ (v3 < (((List.length a2) : Nat) : Int)))) then 
 bindO a2[(Int.toNat v3)]? fun x5 =>
 bif (decide (x4.1 ≠ x5.1)) then
 outO (outO (some Bool.false))
 else
 bif (decide (((0 : Int) ≤ v3) ∧ (v3 < (((List.length a1) : Nat) : Int)))) then 
 bindO a1[(Int.toNat v3)]? fun x6 =>
 bif (decide (((0 : Int) ≤ v3) ∧ (v3 < (((List.length a2) : Nat) : Int)))) then 
 bindO a2[(Int.toNat v3)]? fun x7 =>
 bif (decide (x6.2.1 ≠ x7.2.1)) then
 outO (outO (some Bool.false))
 else
 bif (decide (((0 : Int) ≤ v3) ∧ (v3 < (((List.length a1) : Nat) : Int)))) then 
 bindO a1[(Int.toNat v3)]? fun x8 =>
 bif (decide (((0 : Int) ≤ v3) ∧ (v3 < (((List.length a2) : Nat) : Int)))) then 
 bindO a2[(Int.toNat v3)]? fun x9 =>
 bif (decide (x8.2.2.1 ≠ x9.2.2.1)) then
 outO (outO (some Bool.false))
 else
 bif (decide (((0 : Int) ≤ v3) ∧ (v3 < (((List.length a1) : Nat) : Int)))) then 
 bindO a1[(Int.toNat v3)]? fun x10 =>
 bif (decide (((0 : Int) ≤ v3) ∧ (v3 < (((List.length a2) : Nat) : Int)))) then 
 bindO a2[(Int.toNat v3)]? fun x11 =>
 bif (decide (x10.2.2.2.1 ≠ x11.2.2.2.1)) then
 outO (outO (some Bool.false))
 else
 bif (decide (((0 : Int) ≤ v3) ∧ (v3 < (((List.length a1) : Nat) : Int)))) then 
 bindO a1[(Int.toNat v3)]? fun x12 =>
 bif (decide (((0 : Int) ≤ v3) ∧ (v3 < (((List.length a2) : Nat) : Int)))) then 
 bindO a2[(Int.toNat v3)]? fun x13 =>
 bif (decide ((bytesU x12.2.2.2.2) ≠ (bytesU x13.2.2.2.2))) then
 outO (outO (some Bool.false))
 else
 some (Sum.inl (Go.IntKind.wrap .i64 (v3 + (1 : Int))))
 else none
 else none
 else none
 else none
 else none
 else none
 else none
 else none
 else none
 else none
 else
 outO (some (Sum.inl ()))) (0 : Int)) fun _ =>
 some Bool.true
noncomputable def cons26 : List (Nat × CE) := (7, ⟨[(.tmp 0 false [(.dat (.list (.pair .bool (.pair (.int .i64) (.pair .bool (.int .i64))))))])], [(.tmp 0 false [(.dat (.list (.pair .bool (.pair (.int .i64) (.pair .bool (.int .i64))))))])], dialtonelaw11_fit⟩) :: cons7
theorem cons26_ok : ConL Try.prog cons26 := ⟨con7, cons7_ok⟩
theorem con26 : ConOk Try.prog 26 ⟨[(.tmp 0 false [(.dat (.list (.pair (.int .i64) (.pair .str (.pair .str (.pair (.int .i64) (.list (.int .u8))))))))]), (.tmp 1 false [(.dat (.list (.pair (.int .i64) (.pair .str (.pair .str (.pair (.int .i64) (.list (.int .u8))))))))])], [(.tmp 0 false [(.dat .bool)])], dialtoneref11_Same⟩ :=
  tree_ok (plan := planOf plan26) (eg := egNo) KK tabL_ok (conOf_ok cons26_ok) Try.func26 (by kernel_rfl) (by kernel_rfl) 10000 (fun a r h => Eq.trans (show _ = dialtoneref11_Same a from by kernel_rfl) h)
def plan39 : List (Nat × PL) := []
noncomputable def dialtoneref11_delay : Int → Option Bool := fun a1 =>
 bif (decide (a1 ≥ (0 : Int))) then
 some (decide (a1 ≤ (60000 : Int)))
 else
 some Bool.false
noncomputable def cons39 : List (Nat × CE) := (26, ⟨[(.tmp 0 false [(.dat (.list (.pair (.int .i64) (.pair .str (.pair .str (.pair (.int .i64) (.list (.int .u8))))))))]), (.tmp 1 false [(.dat (.list (.pair (.int .i64) (.pair .str (.pair .str (.pair (.int .i64) (.list (.int .u8))))))))])], [(.tmp 0 false [(.dat .bool)])], dialtoneref11_Same⟩) :: cons26
theorem cons39_ok : ConL Try.prog cons39 := ⟨con26, cons26_ok⟩
theorem con39 : ConOk Try.prog 39 ⟨[(.tmp 0 false [(.dat (.int .i64))])], [(.tmp 0 false [(.dat .bool)])], dialtoneref11_delay⟩ :=
  tree_ok (plan := planOf plan39) (eg := egNo) KK tabL_ok (conOf_ok cons39_ok) Try.func39 (by kernel_rfl) (by kernel_rfl) 10000 (fun a r h => Eq.trans (show _ = dialtoneref11_delay a from by kernel_rfl) h)
def plan41 : List (Nat × PL) := [(134480385, (.carry [.tmp 3 false [(.dat (.int .i64))]])), (18049651601311750, (.carry [.tmp 4 false [(.dat (.int .i64))], .tmp 3 false [(.dat (.int .i64))]]))]
noncomputable def dialtoneref11_Carrier_first : ((List (Bool × (Int × (Bool × Int)))) × ((List (Int × ((List UInt8) × ((List UInt8) × (Int × (List Int)))))) × (Int × (Int × Int)))) → Option Int := fun (a1, (a2, (a3, (a4, a5)))) =>
 joinO (loopO (fun (v6, v7) =>
 bif (decide (v6 < (((List.length a2) : Nat) : Int))) then
 bif (decide (v7 < (0 : Int))) then
 some (Sum.inl ((Go.IntKind.wrap .i64 (v6 + (1 : Int))), v6))
 else
 bif (decide (((0 : Int) ≤ v6) ∧ (v6 < (((List.length a2) : Nat) : Int)))) then 
 bindO a2[(Int.toNat v6)]? fun x9 =>
 bif (decide (((0 : Int) ≤ v7) ∧ (v7 < (((List.length a2) : Nat) : Int)))) then 
 bindO a2[(Int.toNat v7)]? fun x10 =>
 bif (decide (x9.2.2.2.1 < x10.2.2.2.1)) then
 some (Sum.inl ((Go.IntKind.wrap .i64 (v6 + (1 : Int))), v6))
 else
 some (Sum.inl ((Go.IntKind.wrap .i64 (v6 + (1 : Int))), v7))
 else none
 else none
 else
 outO (some (Sum.inl v7))) ((0 : Int), (-1 : Int))) fun v13 =>
 some v13
noncomputable def cons41 : List (Nat × CE) := (39, ⟨[(.tmp 0 false [(.dat (.int .i64))])], [(.tmp 0 false [(.dat .bool)])], dialtoneref11_delay⟩) :: cons39
theorem cons41_ok : ConL Try.prog cons41 := ⟨con39, cons39_ok⟩
theorem con41 : ConOk Try.prog 41 ⟨[.tmp 0 false [.pt 20000030 0], .mix 20000030 [.own 20000032 37 UFt, .own 20000031 40 UDg, .dat (.int .i64), .dat (.int .i64), .dat (.int .i64)]], [.tmp 0 false [(.dat (.int .i64))]], dialtoneref11_Carrier_first⟩ :=
  conS_ok (tree_okS (plan := planOf plan41) (eg := egNo) KK tabL_ok (conOf_ok cons41_ok) Try.func41 (by kernel_rfl) (by kernel_rfl) 10000 (fun a r h => Eq.trans (show _ = dialtoneref11_Carrier_first a from by kernel_rfl) h)) (by rfl)
def plan42 : List (Nat × PL) := []
noncomputable def dialtoneref11_Carrier_Next : ((List (Bool × (Int × (Bool × Int)))) × ((List (Int × ((List UInt8) × ((List UInt8) × (Int × (List Int)))))) × (Int × (Int × Int)))) → Option (Int × Bool) := fun (a1, (a2, (a3, (a4, a5)))) =>
 bif ((decide ((List.length a1) = (List.length a1))) && (decide ((List.length a2) = (List.length a2)))) then 
 bindO (dialtoneref11_Carrier_first (a1, (a2, (a3, (a4, a5))))) fun x6 =>
 bif (decide (x6 < (0 : Int))) then
 some ((0 : Int), Bool.false)
 else
 bif (decide (((0 : Int) ≤ x6) ∧ (x6 < (((List.length a2) : Nat) : Int)))) then 
 bindO a2[(Int.toNat x6)]? fun x7 =>
 some (x7.2.2.2.1, Bool.true)
 else none
 else none
noncomputable def cons42 : List (Nat × CE) := (41, ⟨[.tmp 0 false [.pt 20000030 0], .mix 20000030 [.own 20000032 37 UFt, .own 20000031 40 UDg, .dat (.int .i64), .dat (.int .i64), .dat (.int .i64)]], [.tmp 0 false [(.dat (.int .i64))]], dialtoneref11_Carrier_first⟩) :: cons41
theorem cons42_ok : ConL Try.prog cons42 := ⟨con41, cons41_ok⟩
theorem con42 : ConOk Try.prog 42 ⟨[.tmp 0 false [.pt 20000030 0], .mix 20000030 [.own 20000032 37 UFt, .own 20000031 40 UDg, .dat (.int .i64), .dat (.int .i64), .dat (.int .i64)]], [.tmp 0 false [(.dat (.int .i64))], .tmp 1 false [(.dat .bool)]], dialtoneref11_Carrier_Next⟩ :=
  conS_ok (tree_okS (plan := planOf plan42) (eg := egNo) KK tabL_ok (conOf_ok cons42_ok) Try.func42 (by kernel_rfl) (by kernel_rfl) 10000 (fun a r h => Eq.trans (show _ = dialtoneref11_Carrier_Next a from by kernel_rfl) h)) (by rfl)
def plan24 : List (Nat × PL) := [(4731607904558235517441, (.carry [.mix 27 [(.dat .bool), (.dat (.int .i64)), (.dat .bool), (.dat (.int .i64))]]))]
noncomputable def dialtoneref11_Carrier_Send : ((List UInt8) × ((List UInt8) × ((List Int) × (Int × ((List (Bool × (Int × (Bool × Int)))) × ((List (Int × ((List UInt8) × ((List UInt8) × (Int × (List Int)))))) × (Int × (Int × Int)))))))) → Option (Int × (Int × ((List (Bool × (Int × (Bool × Int)))) × ((List (Int × ((List UInt8) × ((List UInt8) × (Int × (List Int)))))) × (Int × (Int × Int)))))) := fun (a1, (a2, (a3, (a4, (a5, (a6, (a7, (a8, a9)))))))) =>
 bif (decide (a4 < a7)) then
 bif ((decide ((List.length a5) ≤ (List.length a5))) && (decide ((List.length a6) ≤ (List.length a6)))) then 
 some ((0 : Int), ((3 : Int), ((List.take (List.length a5) a5), ((List.take (List.length a6) a6), (a7, (a8, a9))))))
 else none
 else
 bif (decide (a4 > (1099511627776 : Int))) then
 bif ((decide ((List.length a5) ≤ (List.length a5))) && (decide ((List.length a6) ≤ (List.length a6)))) then 
 some ((0 : Int), ((3 : Int), ((List.take (List.length a5) a5), ((List.take (List.length a6) a6), (a7, (a8, a9))))))
 else none
 else
 bif (decide (a8 ≥ (10000 : Int))) then
 bif ((decide ((List.length a5) ≤ (List.length a5))) && (decide ((List.length a6) ≤ (List.length a6)))) then 
 some ((0 : Int), ((4 : Int), ((List.take (List.length a5) a5), ((List.take (List.length a6) a6), (a7, (a8, a9))))))
 else none
 else
 bif (decide (((List.length a3) * 1) ≤ 140737488355328)) then 
 joinO (bif (decide (a8 < (((List.length a5) : Nat) : Int))) then
 bif (decide (((0 : Int) ≤ a8) ∧ (a8 < (((List.length a5) : Nat) : Int)))) then 
 bindO a5[(Int.toNat a8)]? fun x11 =>
 some (Sum.inl (x11.1, (x11.2.1, (x11.2.2.1, x11.2.2.2))))
 else none
 else
 some (Sum.inl (Bool.false, ((0 : Int), (Bool.false, (0 : Int)))))) fun (v12, (v13, (v14, v15))) =>
 bindO (some (Go.IntKind.wrap .i64 (a8 + (1 : Int)))) fun x16 =>
 bif v12 then
 bif ((decide ((List.length a5) ≤ (List.length a5))) && (decide ((List.length a6) ≤ (List.length a6)))) then 
 some (a8, ((0 : Int), ((List.take (List.length a5) a5), ((List.take (List.length a6) a6), (a4, (x16, (Go.IntKind.wrap .i64 (a9 + (1 : Int)))))))))
 else none
 else
 bindO (some (Go.IntKind.wrap .i64 (a4 + v13))) fun x18 =>
 bif (decide ((List.length a3) ≤ (List.length a3))) then 
 bif (decide ((List.length a6) ≤ (List.length a6))) then 
 bif (decide (((List.length ((List.take (List.length a6) a6) ++ ((a8, (a1, (a2, (x18, (List.take (List.length a3) a3))))) :: ([] : List (Int × ((List UInt8) × ((List UInt8) × (Int × (List Int))))))))) * 72) ≤ 140737488355328)) then 
 bindO (some ((List.take (List.length a6) a6) ++ ((a8, (a1, (a2, (x18, (List.take (List.length a3) a3))))) :: ([] : List (Int × ((List UInt8) × ((List UInt8) × (Int × (List Int))))))))) fun x19 =>
 bif v14 then
 bindO (some (Go.IntKind.wrap .i64 (a4 + v15))) fun x20 =>
 bif (decide ((List.length a3) ≤ (List.length a3))) then 
 bif (decide ((List.length x19) ≤ (List.length x19))) then 
 bif (decide (((List.length ((List.take (List.length x19) x19) ++ ((a8, (a1, (a2, (x20, (List.take (List.length a3) a3))))) :: ([] : List (Int × ((List UInt8) × ((List UInt8) × (Int × (List Int))))))))) * 72) ≤ 140737488355328)) then 
 bindO (some ((List.take (List.length x19) x19) ++ ((a8, (a1, (a2, (x20, (List.take (List.length a3) a3))))) :: ([] : List (Int × ((List UInt8) × ((List UInt8) × (Int × (List Int))))))))) fun x21 =>
 bif ((decide ((List.length a5) ≤ (List.length a5))) && (decide ((List.length x21) ≤ (List.length x21)))) then 
 some (a8, ((0 : Int), ((List.take (List.length a5) a5), ((List.take (List.length x21) x21), (a4, (x16, a9))))))
 else none
 else none
 else none
 else none
 else
 bif ((decide ((List.length a5) ≤ (List.length a5))) && (decide ((List.length x19) ≤ (List.length x19)))) then 
 some (a8, ((0 : Int), ((List.take (List.length a5) a5), ((List.take (List.length x19) x19), (a4, (x16, a9))))))
 else none
 else none
 else none
 else none
 else none
noncomputable def cons24 : List (Nat × CE) := (42, ⟨[.tmp 0 false [.pt 20000030 0], .mix 20000030 [.own 20000032 37 UFt, .own 20000031 40 UDg, .dat (.int .i64), .dat (.int .i64), .dat (.int .i64)]], [.tmp 0 false [(.dat (.int .i64))], .tmp 1 false [(.dat .bool)]], dialtoneref11_Carrier_Next⟩) :: cons42
theorem cons24_ok : ConL Try.prog cons24 := ⟨con42, cons42_ok⟩
theorem con24 : ConOk Try.prog 24 ⟨[.tmp 0 false [.pt 20000030 0], .tmp 1 false [.dat .str], .tmp 2 false [.dat .str], .tmp 3 false [.dat (.list (.int .u8))], .tmp 4 false [.dat (.int .i64)], .mix 20000030 [.own 20000032 37 UFt, .own 20000031 40 UDg, .dat (.int .i64), .dat (.int .i64), .dat (.int .i64)]], [.tmp 0 false [(.dat (.int .i64))], .tmp 1 false [(.dat (.int .u8))], .mix 20000030 [(.own 10000001 37 (.pair .bool (.pair (.int .i64) (.pair .bool (.int .i64))))), (.own 10000002 40 (.pair (.int .i64) (.pair .str (.pair .str (.pair (.int .i64) (.list (.int .u8))))))), (.dat (.int .i64)), (.dat (.int .i64)), (.dat (.int .i64))], .dead 20000031, .dead 20000032], dialtoneref11_Carrier_Send⟩ :=
  conS_ok (tree_okS (plan := planOf plan24) (eg := egNo) KK tabL_ok (conOf_ok cons24_ok) Try.func24 (by kernel_rfl) (by kernel_rfl) 10000 (fun a r h => Eq.trans (show _ = dialtoneref11_Carrier_Send a from by kernel_rfl) h)) (by rfl)
def plan25 : List (Nat × PL) := [(35253226045953, (.carry [.tmp 6 false [(.own 10000006 40 (.pair (.int .i64) (.pair .str (.pair .str (.pair (.int .i64) (.list (.int .u8)))))))], .mix 20000030 [(.own 10000007 37 (.pair .bool (.pair (.int .i64) (.pair .bool (.int .i64))))), (.own 10000008 40 (.pair (.int .i64) (.pair .str (.pair .str (.pair (.int .i64) (.list (.int .u8))))))), (.dat (.int .i64)), (.dat (.int .i64)), (.dat (.int .i64))], .dead 20000032, .dead 20000031])), (4731607904558101301254, (.carry [.tmp 7 false [(.dat (.int .i64))], .tmp 6 false [(.own 10000003 40 (.pair (.int .i64) (.pair .str (.pair .str (.pair (.int .i64) (.list (.int .u8)))))))], .mix 20000030 [(.own 10000004 37 (.pair .bool (.pair (.int .i64) (.pair .bool (.int .i64))))), (.own 10000005 40 (.pair (.int .i64) (.pair .str (.pair .str (.pair (.int .i64) (.list (.int .u8))))))), (.dat (.int .i64)), (.dat (.int .i64)), (.dat (.int .i64))], .dead 20000032, .dead 20000031]))]
noncomputable def dialtoneref11_Carrier_Receive : (Int × ((List (Bool × (Int × (Bool × Int)))) × ((List (Int × ((List UInt8) × ((List UInt8) × (Int × (List Int)))))) × (Int × (Int × Int))))) → Option ((List (Int × ((List UInt8) × ((List UInt8) × (Int × (List Int)))))) × (Int × ((List (Bool × (Int × (Bool × Int)))) × ((List (Int × ((List UInt8) × ((List UInt8) × (Int × (List Int)))))) × (Int × (Int × Int)))))) := fun (a1, (a2, (a3, (a4, (a5, a6))))) =>
 bif (decide (a1 < a4)) then
 bif ((decide ((List.length a2) ≤ (List.length a2))) && (decide ((List.length a3) ≤ (List.length a3)))) then 
 some (([] : List (Int × ((List UInt8) × ((List UInt8) × (Int × (List Int)))))), ((3 : Int), ((List.take (List.length a2) a2), ((List.take (List.length a3) a3), (a4, (a5, a6))))))
 else none
 else
 bif (decide (a1 > (1099511627776 : Int))) then
 bif ((decide ((List.length a2) ≤ (List.length a2))) && (decide ((List.length a3) ≤ (List.length a3)))) then 
 some (([] : List (Int × ((List UInt8) × ((List UInt8) × (Int × (List Int)))))), ((3 : Int), ((List.take (List.length a2) a2), ((List.take (List.length a3) a3), (a4, (a5, a6))))))
 else none
 else
 joinO (bif ((decide ((List.length a2) = (List.length a2))) && (decide ((List.length a3) = (List.length a3)))) then 
 bindO (dialtoneref11_Carrier_first (a2, (a3, (a1, (a5, a6))))) fun x7 =>
 bif ((decide ((List.length a2) ≤ (List.length a2))) && (decide ((List.length a3) ≤ (List.length a3)))) then 
 loopO (fun (v8, (v9, (v10, (v11, (v12, (v13, v14)))))) =>
 bif (decide (v8 ≥ (0 : Int))) then
 bif (decide (((0 : Int) ≤ v8) ∧ (v8 < (((List.length v11) : Nat) : Int)))) then 
 bindO v11[(Int.toNat v8)]? fun x15 =>
 bif (decide (x15.2.2.2.1 ≤ a1)) then
 bif (decide (((0 : Int) ≤ v8) ∧ (v8 < (((List.length v11) : Nat) : Int)))) then 
 bindO v11[(Int.toNat v8)]? fun x16 =>
 bif (decide ((List.length v9) ≤ (List.length v9))) then 
 bif (decide (((List.length ((List.take (List.length v9) v9) ++ ((x16.1, (x16.2.1, (x16.2.2.1, (x16.2.2.2.1, x16.2.2.2.2)))) :: ([] : List (Int × ((List UInt8) × ((List UInt8) × (Int × (List Int))))))))) * 72) ≤ 140737488355328)) then 
 bindO (some ((List.take (List.length v9) v9) ++ ((x16.1, (x16.2.1, (x16.2.2.1, (x16.2.2.2.1, x16.2.2.2.2)))) :: ([] : List (Int × ((List UInt8) × ((List UInt8) × (Int × (List Int))))))))) fun x17 =>
 bif (decide (((0 : Int) ≤ v8) ∧ (v8 ≤ (((List.length v11) : Nat) : Int)))) then 
 bif (decide ((Int.toNat v8) ≤ (List.length v11))) then 
 bif (decide (((List.length (List.take (Int.toNat v8) v11)) * 72) ≤ 140737488355328)) then 
 bindO (some (List.take (Int.toNat v8) v11)) fun x18 =>
 bindO (some (Go.IntKind.wrap .i64 (v8 + (1 : Int)))) fun x19 =>
 bif (decide (((0 : Int) ≤ x19) ∧ (x19 ≤ (((List.length v11) : Nat) : Int)))) then 
 bif ((decide (((Int.toNat x19) + ((List.length v11) - (Int.toNat x19))) ≤ (List.length v11))) && (decide ((List.length x18) ≤ (List.length x18)))) then 
 bif (decide (((List.length ((List.take (List.length x18) x18) ++ (List.take ((List.length v11) - (Int.toNat x19)) (List.drop (Int.toNat x19) v11)))) * 72) ≤ 140737488355328)) then 
 bindO (some ((List.take (List.length x18) x18) ++ (List.take ((List.length v11) - (Int.toNat x19)) (List.drop (Int.toNat x19) v11)))) fun x20 =>
 bif ((decide ((List.length v10) = (List.length v10))) && (decide ((List.length x20) = (List.length x20)))) then 
 bindO (dialtoneref11_Carrier_first (v10, (x20, (v12, (v13, v14))))) fun x21 =>
 bif ((decide ((List.length x17) ≤ (List.length x17))) && ((decide ((List.length v10) ≤ (List.length v10))) && (decide ((List.length x20) ≤ (List.length x20))))) then 
 some (Sum.inl (x21, ((List.take (List.length x17) x17), ((List.take (List.length v10) v10), ((List.take (List.length x20) x20), (v12, (v13, v14)))))))
 else none
 else none
 else none
 else none
 else none
 else none
 else none
 else none
 else none
 else none
 else none
 else
 outO (bif ((decide ((List.length v9) ≤ (List.length v9))) && ((decide ((List.length v10) ≤ (List.length v10))) && (decide ((List.length v11) ≤ (List.length v11))))) then 
 some (Sum.inl ((List.take (List.length v9) v9), ((List.take (List.length v10) v10), ((List.take (List.length v11) v11), (v12, (v13, v14))))))
 else none)
 else none
 else
 outO (bif ((decide ((List.length v9) ≤ (List.length v9))) && ((decide ((List.length v10) ≤ (List.length v10))) && (decide ((List.length v11) ≤ (List.length v11))))) then 
 some (Sum.inl ((List.take (List.length v9) v9), ((List.take (List.length v10) v10), ((List.take (List.length v11) v11), (v12, (v13, v14))))))
 else none)) (x7, (([] : List (Int × ((List UInt8) × ((List UInt8) × (Int × (List Int)))))), ((List.take (List.length a2) a2), ((List.take (List.length a3) a3), (a1, (a5, a6))))))
 else none
 else none) fun (v22, (v23, (v24, (v25, (v26, v27))))) =>
 bif ((decide ((List.length v22) ≤ (List.length v22))) && ((decide ((List.length v23) ≤ (List.length v23))) && (decide ((List.length v24) ≤ (List.length v24))))) then 
 some ((List.take (List.length v22) v22), ((0 : Int), ((List.take (List.length v23) v23), ((List.take (List.length v24) v24), (v25, (v26, v27))))))
 else none
noncomputable def cons25 : List (Nat × CE) := (24, ⟨[.tmp 0 false [.pt 20000030 0], .tmp 1 false [.dat .str], .tmp 2 false [.dat .str], .tmp 3 false [.dat (.list (.int .u8))], .tmp 4 false [.dat (.int .i64)], .mix 20000030 [.own 20000032 37 UFt, .own 20000031 40 UDg, .dat (.int .i64), .dat (.int .i64), .dat (.int .i64)]], [.tmp 0 false [(.dat (.int .i64))], .tmp 1 false [(.dat (.int .u8))], .mix 20000030 [(.own 10000001 37 (.pair .bool (.pair (.int .i64) (.pair .bool (.int .i64))))), (.own 10000002 40 (.pair (.int .i64) (.pair .str (.pair .str (.pair (.int .i64) (.list (.int .u8))))))), (.dat (.int .i64)), (.dat (.int .i64)), (.dat (.int .i64))], .dead 20000031, .dead 20000032], dialtoneref11_Carrier_Send⟩) :: cons24
theorem cons25_ok : ConL Try.prog cons25 := ⟨con24, cons24_ok⟩
theorem con25 : ConOk Try.prog 25 ⟨[.tmp 0 false [.pt 20000030 0], .tmp 1 false [.dat (.int .i64)], .mix 20000030 [.own 20000032 37 UFt, .own 20000031 40 UDg, .dat (.int .i64), .dat (.int .i64), .dat (.int .i64)]], [.tmp 0 false [(.own 10000009 40 (.pair (.int .i64) (.pair .str (.pair .str (.pair (.int .i64) (.list (.int .u8)))))))], .tmp 1 false [(.dat (.int .u8))], .mix 20000030 [(.own 10000001 37 (.pair .bool (.pair (.int .i64) (.pair .bool (.int .i64))))), (.own 10000002 40 (.pair (.int .i64) (.pair .str (.pair .str (.pair (.int .i64) (.list (.int .u8))))))), (.dat (.int .i64)), (.dat (.int .i64)), (.dat (.int .i64))], .dead 20000032, .dead 20000031], dialtoneref11_Carrier_Receive⟩ :=
  conS_ok (tree_okS (plan := planOf plan25) (eg := egNo) KK tabL_ok (conOf_ok cons25_ok) Try.func25 (by kernel_rfl) (by kernel_rfl) 10000 (fun a r h => Eq.trans (show _ = dialtoneref11_Carrier_Receive a from by kernel_rfl) h)) (by rfl)
end Go.Proofs.Ytkhdpjlpahammaa
