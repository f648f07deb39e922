import Derived.Test.YtkhdpjlpahammaaFp
import Derived.Test.YtkhdpjlpahammaaXBp
import Derived.Test.YtkhdpjlpahammaaLp
import Derived.Test.YtkhdpjlpahammaaZ1p
import Derived.Test.YtkhdpjlpahammaaA1p
set_option linter.unusedVariables false
set_option maxRecDepth 1000000
set_option maxHeartbeats 0
namespace Go.Proofs.Ytkhdpjlpahammaa
open Go.RowKit
def plan3 : List (Nat × PL) := [(68853956625, .unroll), (18049651605504513, (.carry [])), (35253226045457, .unroll), (2422583229682367894652934, (.carry [.tmp 8 false [(.dat (.int .i64))]])), (9241421688460280321, (.carry [])), (1240362622515062642793777158, (.carry [.tmp 8 false [(.dat (.int .i64))]])), (2422583247133816584929793, (.carry [.tmp 10 false [(.own 10000010 40 (.pair (.int .i64) (.pair .str (.pair .str (.pair (.int .i64) (.list (.int .u8)))))))], .tmp 11 false [(.own 10000011 3 (.int .i64))], .tmp 12 false [(.dat (.int .i64))], .mix 16 [(.dat .bool), (.own 10000012 37 (.pair .bool (.pair (.int .i64) (.pair .bool (.int .i64))))), (.own 10000013 67 (.pair (.pair .bool (.pair (.int .i64) (.pair .bool (.int .i64)))) (.pair (.int .i64) (.pair .str (.pair .str (.pair (.int .i64) (.pair .bool (.list (.int .u8))))))))), (.dat (.int .i64)), (.dat (.int .i64)), (.dat (.int .i64))], .mix 32 [(.dat .bool), (.own 10000019 37 (.pair .bool (.pair (.int .i64) (.pair .bool (.int .i64))))), (.own 10000020 67 (.pair (.pair .bool (.pair (.int .i64) (.pair .bool (.int .i64)))) (.pair (.int .i64) (.pair .str (.pair .str (.pair (.int .i64) (.pair .bool (.list (.int .u8))))))))), (.dat (.int .i64)), (.dat (.int .i64)), (.dat (.int .i64))], .dead 35, .dead 19])), (325153619321163373997995722016774, (.carry [.tmp 13 false [(.dat (.int .i64))], .tmp 10 false [(.own 10000003 40 (.pair (.int .i64) (.pair .str (.pair .str (.pair (.int .i64) (.list (.int .u8)))))))], .tmp 11 false [(.own 10000004 3 (.int .i64))], .tmp 12 false [(.dat (.int .i64))], .mix 16 [(.dat .bool), (.own 10000005 37 (.pair .bool (.pair (.int .i64) (.pair .bool (.int .i64))))), (.own 10000006 67 (.pair (.pair .bool (.pair (.int .i64) (.pair .bool (.int .i64)))) (.pair (.int .i64) (.pair .str (.pair .str (.pair (.int .i64) (.pair .bool (.list (.int .u8))))))))), (.dat (.int .i64)), (.dat (.int .i64)), (.dat (.int .i64))], .mix 32 [(.dat .bool), (.own 10000017 37 (.pair .bool (.pair (.int .i64) (.pair .bool (.int .i64))))), (.own 10000018 67 (.pair (.pair .bool (.pair (.int .i64) (.pair .bool (.int .i64)))) (.pair (.int .i64) (.pair .str (.pair .str (.pair (.int .i64) (.pair .bool (.list (.int .u8))))))))), (.dat (.int .i64)), (.dat (.int .i64)), (.dat (.int .i64))], .dead 35, .dead 19])), (166478653092435647486973878391276033, (.carry [])), (2999012800128941014399895097006285836213968907272211, (.carry [.tmp 0 false [(.dat (.int .i64))], .tmp 1 false [(.dat (.int .u8))], .mix 16 [(.dat .bool), (.own 10000008 37 (.pair .bool (.pair (.int .i64) (.pair .bool (.int .i64))))), (.own 10000009 67 (.pair (.pair .bool (.pair (.int .i64) (.pair .bool (.int .i64)))) (.pair (.int .i64) (.pair .str (.pair .str (.pair (.int .i64) (.pair .bool (.list (.int .u8))))))))), (.dat (.int .i64)), (.dat (.int .i64)), (.dat (.int .i64))], .dead 10000006, .dead 10000005])), (43641380036263450374825280377002664395265, (.carry [.tmp 22 false [(.dat (.int .i64))]])), (54025411716560186203011765271150964969956217360618630720589314392088, (.carry [.tmp 0 false [(.own 10000001 5 (.int .u8))]])), (1535494553666017799372746289667218348141552080523624467, (.carry [.tmp 0 false [(.dat (.int .i64))], .tmp 1 false [(.dat (.int .u8))], .mix 32 [(.dat .bool), (.own 10000015 37 (.pair .bool (.pair (.int .i64) (.pair .bool (.int .i64))))), (.own 10000016 67 (.pair (.pair .bool (.pair (.int .i64) (.pair .bool (.int .i64)))) (.pair (.int .i64) (.pair .str (.pair .str (.pair (.int .i64) (.pair .bool (.list (.int .u8))))))))), (.dat (.int .i64)), (.dat (.int .i64)), (.dat (.int .i64))], .dead 10000018, .dead 10000017])), (5857446875251837918749797529164281065078828304390, (.carry [.tmp 23 false [(.dat (.int .i64))], .tmp 22 false [(.dat (.int .i64))]])), (22344386578566886591910543553025364170375681, (.carry [])), (27661010798878815335942023818829294064617583288641286375615071544147992, (.carry [.tmp 0 false [(.own 10000002 5 (.int .u8))]])), (1535494553666017799372746289667218348141552080523624961, (.carry [])), (2999012800128941014399896334932111905320428676319238, (.carry [.tmp 25 false [(.dat (.int .i64))]])), (54025411716560186203011765271150964969956217360618630720589314392577, (.carry [.mix 119 [(.dat .bool), (.dat (.int .i64)), (.dat .bool), (.dat (.int .i64)), (.dat (.int .i64)), (.dat .str), (.dat .str), (.dat (.int .i64)), (.dat .bool), (.own 10000007 5 (.int .u8))], .dead 10000001])), (27661010798878815335942023818829294064617583288641286375615071544148481, (.carry [.mix 128 [(.dat .bool), (.dat (.int .i64)), (.dat .bool), (.dat (.int .i64)), (.dat (.int .i64)), (.dat .str), (.dat .str), (.dat (.int .i64)), (.dat .bool), (.own 10000014 5 (.int .u8))], .dead 10000002])), (206090590349426979839369917189178928217011119958869537736098305, (.carry [.mix 80 [(.dat .bool), (.dat (.int .i64)), (.dat .bool), (.dat (.int .i64))]]))]
noncomputable def dialtonelaw11_CarrierDelivers : ((List (Bool × (Int × (Bool × Int)))) × (List Int)) → Option Bool := fun (a1, a2) =>
 bindO (dialtonelaw11_fit a1) fun x3 =>
 joinO (loopO (fun v4 =>
 bif (decide (v4 < (((List.length x3) : Nat) : Int))) then
 bif (decide (((0 : Int) ≤ v4) ∧ (v4 < (((List.length x3) : Nat) : Int)))) then 
 bindO x3[(Int.toNat v4)]? fun x5 =>
 bif (decide (x5.2.1 < (0 : Int))) then
 outO (outO (joinO (loopO (fun v6 =>
 bif (decide (v6 < (((List.length x3) : Nat) : Int))) then
 bif (decide (((0 : Int) ≤ v6) ∧ (v6 < (((List.length x3) : Nat) : Int)))) then 
 bindO x3[(Int.toNat v6)]? fun x7 =>
 bif (decide (x7.2.1 < (0 : Int))) then
 outO (outO (some Bool.false))
 else
 bif (decide (x7.2.1 > (60000 : Int))) then
 outO (outO (some Bool.false))
 else
 bif (decide (x7.2.2.2 < (0 : Int))) then
 outO (outO (some Bool.false))
 else
 bif (decide (x7.2.2.2 > (60000 : Int))) then
 outO (outO (some Bool.false))
 else
 some (Sum.inl (Go.IntKind.wrap .i64 (v6 + (1 : Int))))
 else none
 else
 outO (some (Sum.inl ()))) (0 : Int)) fun _ =>
 bindO (cloneG x3) fun x9 =>
 some Bool.false))
 else
 bif (decide (x5.2.1 > (60000 : Int))) then
 outO (outO (joinO (loopO (fun v10 =>
 bif (decide (v10 < (((List.length x3) : Nat) : Int))) then
 bif (decide (((0 : Int) ≤ v10) ∧ (v10 < (((List.length x3) : Nat) : Int)))) then 
 bindO x3[(Int.toNat v10)]? fun x11 =>
 bif (decide (x11.2.1 < (0 : Int))) then
 outO (outO (some Bool.false))
 else
 bif (decide (x11.2.1 > (60000 : Int))) then
 outO (outO (some Bool.false))
 else
 bif (decide (x11.2.2.2 < (0 : Int))) then
 outO (outO (some Bool.false))
 else
 bif (decide (x11.2.2.2 > (60000 : Int))) then
 outO (outO (some Bool.false))
 else
 some (Sum.inl (Go.IntKind.wrap .i64 (v10 + (1 : Int))))
 else none
 else
 outO (some (Sum.inl ()))) (0 : Int)) fun _ =>
 bindO (cloneG x3) fun x13 =>
 some Bool.false))
 else
 bif (decide (x5.2.2.2 < (0 : Int))) then
 outO (outO (joinO (loopO (fun v14 =>
 bif (decide (v14 < (((List.length x3) : Nat) : Int))) then
 bif (decide (((0 : Int) ≤ v14) ∧ (v14 < (((List.length x3) : Nat) : Int)))) then 
 bindO x3[(Int.toNat v14)]? fun x15 =>
 bif (decide (x15.2.1 < (0 : Int))) then
 outO (outO (some Bool.false))
 else
 bif (decide (x15.2.1 > (60000 : Int))) then
 outO (outO (some Bool.false))
 else
 bif (decide (x15.2.2.2 < (0 : Int))) then
 outO (outO (some Bool.false))
 else
 bif (decide (x15.2.2.2 > (60000 : Int))) then
 outO (outO (some Bool.false))
 else
 some (Sum.inl (Go.IntKind.wrap .i64 (v14 + (1 : Int))))
 else none
 else
 outO (some (Sum.inl ()))) (0 : Int)) fun _ =>
 bindO (cloneG x3) fun x17 =>
 some Bool.false))
 else
 bif (decide (x5.2.2.2 > (60000 : Int))) then
 outO (outO (joinO (loopO (fun v18 =>
 bif (decide (v18 < (((List.length x3) : Nat) : Int))) then
 bif (decide (((0 : Int) ≤ v18) ∧ (v18 < (((List.length x3) : Nat) : Int)))) then 
 bindO x3[(Int.toNat v18)]? fun x19 =>
 bif (decide (x19.2.1 < (0 : Int))) then
 outO (outO (some Bool.false))
 else
 bif (decide (x19.2.1 > (60000 : Int))) then
 outO (outO (some Bool.false))
 else
 bif (decide (x19.2.2.2 < (0 : Int))) then
 outO (outO (some Bool.false))
 else
 bif (decide (x19.2.2.2 > (60000 : Int))) then
 outO (outO (some Bool.false))
 else
 some (Sum.inl (Go.IntKind.wrap .i64 (v18 + (1 : Int))))
 else none
 else
 outO (some (Sum.inl ()))) (0 : Int)) fun _ =>
 bindO (cloneG x3) fun x21 =>
 some Bool.false))
 else
 some (Sum.inl (Go.IntKind.wrap .i64 (v4 + (1 : Int))))
 else none
 else
 outO (some (Sum.inl ()))) (0 : Int)) fun _ =>
 bindO (cloneG x3) fun x23 =>
 joinO (loopO (fun v24 =>
 bif (decide (v24 < (((List.length x3) : Nat) : Int))) then
 bif (decide (((0 : Int) ≤ v24) ∧ (v24 < (((List.length x3) : Nat) : Int)))) then 
 bindO x3[(Int.toNat v24)]? fun x25 =>
 bif (decide (x25.2.1 < (0 : Int))) then
 outO (outO (some Bool.false))
 else
 bif (decide (x25.2.1 > (60000 : Int))) then
 outO (outO (some Bool.false))
 else
 bif (decide (x25.2.2.2 < (0 : Int))) then
 outO (outO (some Bool.false))
 else
 bif (decide (x25.2.2.2 > (60000 : Int))) then
 outO (outO (some Bool.false))
 else
 some (Sum.inl (Go.IntKind.wrap .i64 (v24 + (1 : Int))))
 else none
 else
 outO (some (Sum.inl ()))) (0 : Int)) fun _ =>
 bindO (cloneG x3) fun x27 =>
 joinO (bif ((decide ((List.length x23) ≤ (List.length x23))) && (decide ((List.length x27) ≤ (List.length x27)))) then 
 loopO (fun (v28, (v29, (v30, (v31, ((v32, (v33, (v34, (v35, (v36, v37))))), (v38, (v39, (v40, (v41, (v42, v43)))))))))) =>
 bif (decide (v28 < (((List.length a2) : Nat) : Int))) then
 bif (decide (v28 < (60 : Int))) then
 bif (decide (((0 : Int) ≤ v28) ∧ (v28 < (((List.length a2) : Nat) : Int)))) then 
 bindO a2[(Int.toNat v28)]? fun x44 =>
 bindO (some (Go.IntKind.wrap .i64 (v31 + (Go.IntKind.wrap .i64 x44)))) fun x46 =>
 bif (decide (((0 : Int) ≤ v28) ∧ (v28 < (((List.length a2) : Nat) : Int)))) then 
 bindO a2[(Int.toNat v28)]? fun x48 =>
 joinO (bif (!v32) then
 bif ((decide ((List.length v33) ≤ (List.length v33))) && (decide ((List.length v34) ≤ (List.length v34)))) then 
 some (Sum.inl ((0 : Int), ((1 : Int), (v32, ((List.take (List.length v33) v33), ((List.take (List.length v34) v34), (v35, (v36, v37))))))))
 else none
 else
 bif (decide (x46 < v37)) then
 bif ((decide ((List.length v33) ≤ (List.length v33))) && (decide ((List.length v34) ≤ (List.length v34)))) then 
 some (Sum.inl ((0 : Int), ((3 : Int), (v32, ((List.take (List.length v33) v33), ((List.take (List.length v34) v34), (v35, (v36, v37))))))))
 else none
 else
 bif (decide (x46 > (1099511627776 : Int))) then
 bif ((decide ((List.length v33) ≤ (List.length v33))) && (decide ((List.length v34) ≤ (List.length v34)))) then 
 some (Sum.inl ((0 : Int), ((3 : Int), (v32, ((List.take (List.length v33) v33), ((List.take (List.length v34) v34), (v35, (v36, v37))))))))
 else none
 else
 bif (decide (v35 ≥ (10000 : Int))) then
 bif ((decide ((List.length v33) ≤ (List.length v33))) && (decide ((List.length v34) ≤ (List.length v34)))) then 
 some (Sum.inl ((0 : Int), ((4 : Int), (v32, ((List.take (List.length v33) v33), ((List.take (List.length v34) v34), (v35, (v36, v37))))))))
 else none
 else
 joinO (bindO (some ((Go.IntKind.wrap .u8 v28) :: (x48 :: ([] : List Int)))) fun x49 =>
 bif (decide ((List.length x49) ≤ (List.length x49))) then 
 some (Sum.inl (List.take (List.length x49) x49))
 else none) fun v50 =>
 joinO (bif (decide (v35 < (((List.length v33) : Nat) : Int))) then
 bif (decide (((0 : Int) ≤ v35) ∧ (v35 < (((List.length v33) : Nat) : Int)))) then 
 bindO v33[(Int.toNat v35)]? fun x51 =>
 bif (decide ((List.length v50) ≤ (List.length v50))) then 
 some (Sum.inl (x51.1, (x51.2.1, (x51.2.2.1, (x51.2.2.2, (v35, (((97 : UInt8) :: ([] : List UInt8)), (((98 : UInt8) :: ([] : List UInt8)), (x46, (Bool.false, (List.take (List.length v50) v50)))))))))))
 else none
 else none
 else
 bif (decide ((List.length v50) ≤ (List.length v50))) then 
 some (Sum.inl (Bool.false, ((0 : Int), (Bool.false, ((0 : Int), (v35, (((97 : UInt8) :: ([] : List UInt8)), (((98 : UInt8) :: ([] : List UInt8)), (x46, (Bool.false, (List.take (List.length v50) v50)))))))))))
 else none) fun (v52, (v53, (v54, (v55, (v56, (v57, (v58, (v59, (v60, v61))))))))) =>
 bindO (some (Go.IntKind.wrap .i64 (v35 + (1 : Int)))) fun x62 =>
 bif v52 then
 bif ((decide ((List.length v33) ≤ (List.length v33))) && (decide ((List.length v34) ≤ (List.length v34)))) then 
 some (Sum.inl (v56, ((0 : Int), (v32, ((List.take (List.length v33) v33), ((List.take (List.length v34) v34), (x62, ((Go.IntKind.wrap .i64 (v36 + (1 : Int))), x46))))))))
 else none
 else
 bif (decide ((List.length v61) ≤ (List.length v61))) then 
 bif (decide ((List.length v34) ≤ (List.length v34))) then 
 bif (decide (((List.length ((List.take (List.length v34) v34) ++ (((v52, (v53, (v54, v55))), (v56, (v57, (v58, (v59, (v60, (List.take (List.length v61) v61))))))) :: ([] : List ((Bool × (Int × (Bool × Int))) × (Int × ((List UInt8) × ((List UInt8) × (Int × (Bool × (List Int))))))))))) * 112) ≤ 140737488355328)) then 
 bindO (some ((List.take (List.length v34) v34) ++ (((v52, (v53, (v54, v55))), (v56, (v57, (v58, (v59, (v60, (List.take (List.length v61) v61))))))) :: ([] : List ((Bool × (Int × (Bool × Int))) × (Int × ((List UInt8) × ((List UInt8) × (Int × (Bool × (List Int))))))))))) fun x64 =>
 bif v54 then
 bif (decide ((List.length v61) ≤ (List.length v61))) then 
 bif (decide ((List.length x64) ≤ (List.length x64))) then 
 bif (decide (((List.length ((List.take (List.length x64) x64) ++ (((v52, (v53, (v54, v55))), (v56, (v57, (v58, (v59, (Bool.true, (List.take (List.length v61) v61))))))) :: ([] : List ((Bool × (Int × (Bool × Int))) × (Int × ((List UInt8) × ((List UInt8) × (Int × (Bool × (List Int))))))))))) * 112) ≤ 140737488355328)) then 
 bindO (some ((List.take (List.length x64) x64) ++ (((v52, (v53, (v54, v55))), (v56, (v57, (v58, (v59, (Bool.true, (List.take (List.length v61) v61))))))) :: ([] : List ((Bool × (Int × (Bool × Int))) × (Int × ((List UInt8) × ((List UInt8) × (Int × (Bool × (List Int))))))))))) fun x65 =>
 bif ((decide ((List.length v33) ≤ (List.length v33))) && (decide ((List.length x65) ≤ (List.length x65)))) then 
 some (Sum.inl (v56, ((0 : Int), (v32, ((List.take (List.length v33) v33), ((List.take (List.length x65) x65), (x62, (v36, x46))))))))
 else none
 else none
 else none
 else none
 else
 bif ((decide ((List.length v33) ≤ (List.length v33))) && (decide ((List.length x64) ≤ (List.length x64)))) then 
 some (Sum.inl (v56, ((0 : Int), (v32, ((List.take (List.length v33) v33), ((List.take (List.length x64) x64), (x62, (v36, x46))))))))
 else none
 else none
 else none
 else none) fun (v66, (v67, (v68, (v69, (v70, (v71, (v72, v73))))))) =>
 joinO (bif (!v38) then
 bif ((decide ((List.length v39) ≤ (List.length v39))) && (decide ((List.length v40) ≤ (List.length v40)))) then 
 some (Sum.inl ((0 : Int), ((1 : Int), (v38, ((List.take (List.length v39) v39), ((List.take (List.length v40) v40), (v41, (v42, v43))))))))
 else none
 else
 bif (decide (x46 < v43)) then
 bif ((decide ((List.length v39) ≤ (List.length v39))) && (decide ((List.length v40) ≤ (List.length v40)))) then 
 some (Sum.inl ((0 : Int), ((3 : Int), (v38, ((List.take (List.length v39) v39), ((List.take (List.length v40) v40), (v41, (v42, v43))))))))
 else none
 else
 bif (decide (x46 > (1099511627776 : Int))) then
 bif ((decide ((List.length v39) ≤ (List.length v39))) && (decide ((List.length v40) ≤ (List.length v40)))) then 
 some (Sum.inl ((0 : Int), ((3 : Int), (v38, ((List.take (List.length v39) v39), ((List.take (List.length v40) v40), (v41, (v42, v43))))))))
 else none
 else
 bif (decide (v41 ≥ (10000 : Int))) then
 bif ((decide ((List.length v39) ≤ (List.length v39))) && (decide ((List.length v40) ≤ (List.length v40)))) then 
 some (Sum.inl ((0 : Int), ((4 : Int), (v38, ((List.take (List.length v39) v39), ((List.take (List.length v40) v40), (v41, (v42, v43))))))))
 else none
 else
 joinO (bindO (some ((Go.IntKind.wrap .u8 v28) :: (x48 :: ([] : List Int)))) fun x74 =>
 bif (decide ((List.length x74) ≤ (List.length x74))) then 
 some (Sum.inl (List.take (List.length x74) x74))
 else none) fun v75 =>
 joinO (bif (decide (v41 < (((List.length v39) : Nat) : Int))) then
 bif (decide (((0 : Int) ≤ v41) ∧ (v41 < (((List.length v39) : Nat) : Int)))) then 
 bindO v39[(Int.toNat v41)]? fun x76 =>
 bif (decide ((List.length v75) ≤ (List.length v75))) then 
 some (Sum.inl (x76.1, (x76.2.1, (x76.2.2.1, (x76.2.2.2, (v41, (((97 : UInt8) :: ([] : List UInt8)), (((98 : UInt8) :: ([] : List UInt8)), (x46, (Bool.false, (List.take (List.length v75) v75)))))))))))
 else none
 else none
 else
 bif (decide ((List.length v75) ≤ (List.length v75))) then 
 some (Sum.inl (Bool.false, ((0 : Int), (Bool.false, ((0 : Int), (v41, (((97 : UInt8) :: ([] : List UInt8)), (((98 : UInt8) :: ([] : List UInt8)), (x46, (Bool.false, (List.take (List.length v75) v75)))))))))))
 else none) fun (v77, (v78, (v79, (v80, (v81, (v82, (v83, (v84, (v85, v86))))))))) =>
 bindO (some (Go.IntKind.wrap .i64 (v41 + (1 : Int)))) fun x87 =>
 bif v77 then
 bif ((decide ((List.length v39) ≤ (List.length v39))) && (decide ((List.length v40) ≤ (List.length v40)))) then 
 some (Sum.inl (v81, ((0 : Int), (v38, ((List.take (List.length v39) v39), ((List.take (List.length v40) v40), (x87, ((Go.IntKind.wrap .i64 (v42 + (1 : Int))), x46))))))))
 else none
 else
 bif (decide ((List.length v86) ≤ (List.length v86))) then 
 bif (decide ((List.length v40) ≤ (List.length v40))) then 
 bif (decide (((List.length ((List.take (List.length v40) v40) ++ (((v77, (v78, (v79, v80))), (v81, (v82, (v83, (v84, (v85, (List.take (List.length v86) v86))))))) :: ([] : List ((Bool × (Int × (Bool × Int))) × (Int × ((List UInt8) × ((List UInt8) × (Int × (Bool × (List Int))))))))))) * 112) ≤ 140737488355328)) then 
 bindO (some ((List.take (List.length v40) v40) ++ (((v77, (v78, (v79, v80))), (v81, (v82, (v83, (v84, (v85, (List.take (List.length v86) v86))))))) :: ([] : List ((Bool × (Int × (Bool × Int))) × (Int × ((List UInt8) × ((List UInt8) × (Int × (Bool × (List Int))))))))))) fun x89 =>
 bif v79 then
 bif (decide ((List.length v86) ≤ (List.length v86))) then 
 bif (decide ((List.length x89) ≤ (List.length x89))) then 
 bif (decide (((List.length ((List.take (List.length x89) x89) ++ (((v77, (v78, (v79, v80))), (v81, (v82, (v83, (v84, (Bool.true, (List.take (List.length v86) v86))))))) :: ([] : List ((Bool × (Int × (Bool × Int))) × (Int × ((List UInt8) × ((List UInt8) × (Int × (Bool × (List Int))))))))))) * 112) ≤ 140737488355328)) then 
 bindO (some ((List.take (List.length x89) x89) ++ (((v77, (v78, (v79, v80))), (v81, (v82, (v83, (v84, (Bool.true, (List.take (List.length v86) v86))))))) :: ([] : List ((Bool × (Int × (Bool × Int))) × (Int × ((List UInt8) × ((List UInt8) × (Int × (Bool × (List Int))))))))))) fun x90 =>
 bif ((decide ((List.length v39) ≤ (List.length v39))) && (decide ((List.length x90) ≤ (List.length x90)))) then 
 some (Sum.inl (v81, ((0 : Int), (v38, ((List.take (List.length v39) v39), ((List.take (List.length x90) x90), (x87, (v42, x46))))))))
 else none
 else none
 else none
 else none
 else
 bif ((decide ((List.length v39) ≤ (List.length v39))) && (decide ((List.length x89) ≤ (List.length x89)))) then 
 some (Sum.inl (v81, ((0 : Int), (v38, ((List.take (List.length v39) v39), ((List.take (List.length x89) x89), (x87, (v42, x46))))))))
 else none
 else none
 else none
 else none) fun (v91, (v92, (v93, (v94, (v95, (v96, (v97, v98))))))) =>
 joinO (bif (decide (v67 ≠ (0 : Int))) then
 outO (outO (outO (some Bool.false)))
 else
 bif (decide (v92 ≠ (0 : Int))) then
 outO (outO (outO (some Bool.false)))
 else
 bif (decide (v66 ≠ v28)) then
 outO (outO (outO (some Bool.false)))
 else
 bif (decide (v91 ≠ v28)) then
 outO (outO (outO (some Bool.false)))
 else
 some (Sum.inl ())) fun _ =>
 bindO ((Go.IntKind.wrap .u8 v28) :: (x48 :: ([] : List Int)))[0]? fun x99 =>
 bif (decide ((List.length v30) ≤ (List.length v30))) then 
 bif (decide (((List.length ((List.take (List.length v30) v30) ++ (x46 :: ([] : List Int)))) * 8) ≤ 140737488355328)) then 
 bindO (some ((List.take (List.length v30) v30) ++ (x46 :: ([] : List Int)))) fun x100 =>
 bif ((decide ((List.length v69) = (List.length v69))) && (decide ((List.length v70) = (List.length v70)))) then 
 bindO (carrier_Carrier_Receive (x46, (v68, (v69, (v70, (v71, (v72, v73))))))) fun (x102, (x103, (x104, (x105, (x106, (x107, (x108, x109))))))) =>
 bif (decide (x103 ≠ (0 : Int))) then
 outO (outO (some Bool.false))
 else
 bif ((decide ((List.length x102) ≤ (List.length x102))) && (decide ((List.length v29) ≤ (List.length v29)))) then 
 bif (decide (((List.length ((List.take (List.length v29) v29) ++ (List.take (List.length x102) x102))) * 72) ≤ 140737488355328)) then 
 bindO (some ((List.take (List.length v29) v29) ++ (List.take (List.length x102) x102))) fun x110 =>
 bif ((decide ((List.length x110) ≤ (List.length x110))) && ((decide ((List.length x100) ≤ (List.length x100))) && ((decide ((List.length x105) ≤ (List.length x105))) && ((decide ((List.length x106) ≤ (List.length x106))) && ((decide ((List.length v94) ≤ (List.length v94))) && (decide ((List.length v95) ≤ (List.length v95)))))))) then 
 some (Sum.inl ((Go.IntKind.wrap .i64 (v28 + (1 : Int))), ((List.take (List.length x110) x110), ((List.take (List.length x100) x100), (x46, ((x104, ((List.take (List.length x105) x105), ((List.take (List.length x106) x106), (x107, (x108, x109))))), (v93, ((List.take (List.length v94) v94), ((List.take (List.length v95) v95), (v96, (v97, v98)))))))))))
 else none
 else none
 else none
 else none
 else none
 else none
 else none
 else none
 else
 outO (bif ((decide ((List.length v29) ≤ (List.length v29))) && ((decide ((List.length v30) ≤ (List.length v30))) && ((decide ((List.length v33) ≤ (List.length v33))) && ((decide ((List.length v34) ≤ (List.length v34))) && ((decide ((List.length v39) ≤ (List.length v39))) && (decide ((List.length v40) ≤ (List.length v40)))))))) then 
 some (Sum.inl ((List.take (List.length v29) v29), ((List.take (List.length v30) v30), (v31, ((v32, ((List.take (List.length v33) v33), ((List.take (List.length v34) v34), (v35, (v36, v37))))), (v38, ((List.take (List.length v39) v39), ((List.take (List.length v40) v40), (v41, (v42, v43))))))))))
 else none)
 else
 outO (bif ((decide ((List.length v29) ≤ (List.length v29))) && ((decide ((List.length v30) ≤ (List.length v30))) && ((decide ((List.length v33) ≤ (List.length v33))) && ((decide ((List.length v34) ≤ (List.length v34))) && ((decide ((List.length v39) ≤ (List.length v39))) && (decide ((List.length v40) ≤ (List.length v40)))))))) then 
 some (Sum.inl ((List.take (List.length v29) v29), ((List.take (List.length v30) v30), (v31, ((v32, ((List.take (List.length v33) v33), ((List.take (List.length v34) v34), (v35, (v36, v37))))), (v38, ((List.take (List.length v39) v39), ((List.take (List.length v40) v40), (v41, (v42, v43))))))))))
 else none)) ((0 : Int), (([] : List (Int × ((List UInt8) × ((List UInt8) × (Int × (List Int)))))), (([] : List Int), ((0 : Int), ((Bool.true, ((List.take (List.length x23) x23), (([] : List ((Bool × (Int × (Bool × Int))) × (Int × ((List UInt8) × ((List UInt8) × (Int × (Bool × (List Int)))))))), ((0 : Int), ((0 : Int), (0 : Int)))))), (Bool.true, ((List.take (List.length x27) x27), (([] : List ((Bool × (Int × (Bool × Int))) × (Int × ((List UInt8) × ((List UInt8) × (Int × (Bool × (List Int)))))))), ((0 : Int), ((0 : Int), (0 : Int)))))))))))
 else none) fun (v112, (v113, (v114, ((v115, (v116, (v117, (v118, (v119, v120))))), (v121, (v122, (v123, (v124, (v125, v126))))))))) =>
 bif ((decide ((List.length v116) = (List.length v116))) && (decide ((List.length v117) = (List.length v117)))) then 
 bindO (carrier_Carrier_Receive ((Go.IntKind.wrap .i64 (v114 + (1000 : Int))), (v115, (v116, (v117, (v118, (v119, v120))))))) fun (x129, (x130, (x131, (x132, (x133, (x134, (x135, x136))))))) =>
 bif ((decide ((List.length v122) = (List.length v122))) && (decide ((List.length v123) = (List.length v123)))) then 
 bindO (carrier_Carrier_Receive ((Go.IntKind.wrap .i64 (v114 + (1000 : Int))), (v121, (v122, (v123, (v124, (v125, v126))))))) fun (x139, (x140, (x141, (x142, (x143, (x144, (x145, x146))))))) =>
 bif ((decide ((List.length x129) ≤ (List.length x129))) && (decide ((List.length v112) ≤ (List.length v112)))) then 
 bif (decide (((List.length ((List.take (List.length v112) v112) ++ (List.take (List.length x129) x129))) * 72) ≤ 140737488355328)) then 
 bindO (some ((List.take (List.length v112) v112) ++ (List.take (List.length x129) x129))) fun x147 =>
 joinO (bif (decide (x130 ≠ (0 : Int))) then
 outO (some Bool.false)
 else
 bif (decide (x140 ≠ (0 : Int))) then
 outO (some Bool.false)
 else
 bif (decide ((((List.length x147) : Nat) : Int) ≠ (((List.length x139) : Nat) : Int))) then
 outO (some Bool.false)
 else
 bif ((decide ((List.length x132) = (List.length x132))) && (decide ((List.length x133) = (List.length x133)))) then 
 bindO (carrier_Carrier_Waiting (x131, (x132, (x133, (x134, (x135, x136)))))) fun x148 =>
 bif (decide (x148 ≠ (0 : Int))) then
 outO (some Bool.false)
 else
 bif ((decide ((List.length x142) = (List.length x142))) && (decide ((List.length x143) = (List.length x143)))) then 
 bindO (carrier_Carrier_Waiting (x141, (x142, (x143, (x144, (x145, x146)))))) fun x149 =>
 bif (decide (x149 ≠ (0 : Int))) then
 outO (some Bool.false)
 else
 some (Sum.inl ())
 else none
 else none) fun _ =>
 joinO (loopO (fun (v150, v151) =>
 bif (decide (v150 < (((List.length v113) : Nat) : Int))) then
 joinO (bif (decide (v150 < (((List.length x3) : Nat) : Int))) then
 bif (decide (((0 : Int) ≤ v150) ∧ (v150 < (((List.length x3) : Nat) : Int)))) then 
 bindO x3[(Int.toNat v150)]? fun x152 =>
 some (Sum.inl (x152.1, (x152.2.1, (x152.2.2.1, x152.2.2.2))))
 else none
 else
 some (Sum.inl (Bool.false, ((0 : Int), (Bool.false, (0 : Int)))))) fun (v153, (v154, (v155, v156))) =>
 bif v153 then
 some (Sum.inl ((Go.IntKind.wrap .i64 (v150 + (1 : Int))), v151))
 else
 bindO (some (Go.IntKind.wrap .i64 (v151 + (1 : Int)))) fun x158 =>
 bif (decide (((0 : Int) ≤ v150) ∧ (v150 < (((List.length v113) : Nat) : Int)))) then 
 bindO v113[(Int.toNat v150)]? fun x159 =>
 bif (decide (((0 : Int) ≤ v150) ∧ (v150 < (((List.length a2) : Nat) : Int)))) then 
 bindO a2[(Int.toNat v150)]? fun x161 =>
 bif (decide ((List.length x139) ≤ (List.length x139))) then 
 bindO (dialtonelaw11_has ((List.take (List.length x139) x139), (v150, ((Go.IntKind.wrap .i64 (x159 + v154)), x161)))) fun x162 =>
 bif (!x162) then
 outO (outO (some Bool.false))
 else
 bif v155 then
 bif (decide (((0 : Int) ≤ v150) ∧ (v150 < (((List.length v113) : Nat) : Int)))) then 
 bindO v113[(Int.toNat v150)]? fun x164 =>
 bif (decide (((0 : Int) ≤ v150) ∧ (v150 < (((List.length a2) : Nat) : Int)))) then 
 bindO a2[(Int.toNat v150)]? fun x166 =>
 bif (decide ((List.length x139) ≤ (List.length x139))) then 
 bindO (dialtonelaw11_has ((List.take (List.length x139) x139), (v150, ((Go.IntKind.wrap .i64 (x164 + v156)), x166)))) fun x167 =>
 bif (!x167) then
 outO (outO (some Bool.false))
 else
 some (Sum.inl ((Go.IntKind.wrap .i64 (v150 + (1 : Int))), (Go.IntKind.wrap .i64 (x158 + (1 : Int)))))
 else none
 else none
 else none
 else
 some (Sum.inl ((Go.IntKind.wrap .i64 (v150 + (1 : Int))), x158))
 else none
 else none
 else none
 else
 outO (some (Sum.inl v151))) ((0 : Int), (0 : Int))) fun v170 =>
 joinO (loopO (fun v171 =>
 bif (decide (v171 < (((List.length x139) : Nat) : Int))) then
 bif (decide (v171 > (0 : Int))) then
 bif (decide (((0 : Int) ≤ v171) ∧ (v171 < (((List.length x139) : Nat) : Int)))) then 
 bindO x139[(Int.toNat v171)]? fun x172 =>
 bindO (some (Go.IntKind.wrap .i64 (v171 - (1 : Int)))) fun x173 =>
 bif (decide (((0 : Int) ≤ x173) ∧ (x173 < (((List.length x139) : Nat) : Int)))) then 
 bindO x139[(Int.toNat x173)]? fun x174 =>
 bif (decide (x172.2.2.2.1 < x174.2.2.2.1)) then
 outO (outO (some Bool.false))
 else
 bif (decide (((0 : Int) ≤ v171) ∧ (v171 < (((List.length x139) : Nat) : Int)))) then 
 bindO x139[(Int.toNat v171)]? fun x175 =>
 bindO (some (Go.IntKind.wrap .i64 (v171 - (1 : Int)))) fun x176 =>
 bif (decide (((0 : Int) ≤ x176) ∧ (x176 < (((List.length x139) : Nat) : Int)))) then 
 bindO x139[(Int.toNat x176)]? fun x177 =>
 bif (decide (x175.2.2.2.1 = x177.2.2.2.1)) then
 bif (decide (((0 : Int) ≤ v171) ∧ (v171 < (((List.length x139) : Nat) : Int)))) then 
 bindO x139[(Int.toNat v171)]? fun x178 =>
 bindO (some (Go.IntKind.wrap .i64 (v171 - (1 : Int)))) fun x179 =>
 bif (decide (((0 : Int) ≤ x179) ∧ (x179 < (((List.length x139) : Nat) : Int)))) then 
 bindO x139[(Int.toNat x179)]? fun x180 =>
 bif (decide (x178.1 < x180.1)) then
 outO (outO (some Bool.false))
 else
 some (Sum.inl (Go.IntKind.wrap .i64 (v171 + (1 : Int))))
 else none
 else none
 else
 some (Sum.inl (Go.IntKind.wrap .i64 (v171 + (1 : Int))))
 else none
 else none
 else none
 else none
 else
 some (Sum.inl (Go.IntKind.wrap .i64 (v171 + (1 : Int))))
 else
 outO (some (Sum.inl ()))) (0 : Int)) fun _ =>
 bif (decide (v170 = (((List.length x139) : Nat) : Int))) then
 bif ((decide ((List.length x147) ≤ (List.length x147))) && (decide ((List.length x139) ≤ (List.length x139)))) then 
 bindO (dialtonelaw11_alike ((List.take (List.length x147) x147), (List.take (List.length x139) x139))) fun x184 =>
 bif x184 then
 some Bool.true
 else
 some Bool.false
 else none
 else
 some Bool.false
 else none
 else none
 else none
 else none
noncomputable def cons3 : List (Nat × CE) := [(37, ⟨[(.tmp 0 false [(.dat (.int .i64))]), (.tmp 1 false [(.dat (.int .i64))])], [(.tmp 0 false [(.dat (.int .i64))])], cmp_Compare_int⟩), (33, ⟨[(.tmp 0 true [(.dat .bool), (.dat (.int .i64)), (.dat .bool), (.dat (.int .i64)), (.dat (.int .i64)), (.dat .str), (.dat .str), (.dat (.int .i64)), (.dat .bool), (.dat (.list (.int .u8)))])], [(.tmp 0 false [(.dat (.int .i64))])], carrier_parcel_at⟩), (38, ⟨[(.tmp 0 false [(.dat .bool)]), (.tmp 1 false [(.dat .bool)])], [(.tmp 0 false [(.dat (.int .i64))])], carrier_later⟩), (35, ⟨[.tmp 0 false [.dat (.int .i64)], .tmp 1 false [.dat (.int .i64)], .tmp 2 false [.pt 20000001 0], .mix 20000001 [.own 20000002 67 UPc]], [.tmp 0 false [.dat (.int .i64)]], carrier_Carrier_Receive_2⟩), (46, ⟨[.tmp 0 false [.own 20000003 3 (.int .i64)], .tmp 1 false [.dat (.int .i64)], .tmp 2 false [.dat (.int .i64)], .tmp 3 false [.cl 35 [(20000001, 0)]], .mix 20000001 [.own 20000002 67 UPc]], [.row 20000003 3 (.int .i64)], slices_insertionSortCmpFunc_int⟩), (49, ⟨[.tmp 0 false [.own 20000003 3 (.int .i64)], .tmp 1 false [.dat (.int .i64)], .tmp 2 false [.dat (.int .i64)], .tmp 3 false [.dat (.int .i64)], .tmp 4 false [.cl 35 [(20000001, 0)]], .mix 20000001 [.own 20000002 67 UPc]], [.row 20000003 3 (.int .i64)], slices_swapRangeCmpFunc_int⟩), (48, ⟨[.tmp 0 false [.own 20000003 3 (.int .i64)], .tmp 1 false [.dat (.int .i64)], .tmp 2 false [.dat (.int .i64)], .tmp 3 false [.dat (.int .i64)], .tmp 4 false [.cl 35 [(20000001, 0)]], .mix 20000001 [.own 20000002 67 UPc]], [.row 20000003 3 (.int .i64)], slices_rotateCmpFunc_int⟩), (47, ⟨[.tmp 0 false [.own 20000003 3 (.int .i64)], .tmp 1 false [.dat (.int .i64)], .tmp 2 false [.dat (.int .i64)], .tmp 3 false [.dat (.int .i64)], .tmp 4 false [.cl 35 [(20000001, 0)]], .mix 20000001 [.own 20000002 67 UPc]], [.row 20000003 3 (.int .i64)], slices_symMergeCmpFunc_int⟩), (45, ⟨[.tmp 0 false [.own 20000003 3 (.int .i64)], .tmp 1 false [.dat (.int .i64)], .tmp 2 false [.cl 35 [(20000001, 0)]], .mix 20000001 [.own 20000002 67 UPc]], [.row 20000003 3 (.int .i64)], slices_stableCmpFunc_int⟩), (43, ⟨[.tmp 0 false [.own 20000003 3 (.int .i64)], .tmp 1 false [.cl 35 [(20000001, 0)]], .mix 20000001 [.own 20000002 67 UPc]], [.row 20000003 3 (.int .i64)], slices_SortStableFunc___int_int⟩), (28, ⟨[.tmp 0 false [.dat (.list (.pair .bool (.pair (.int .i64) (.pair .bool (.int .i64)))))]], [.tmp 0 false [.own 1 37 (.pair .bool (.pair (.int .i64) (.pair .bool (.int .i64))))]], cloneG⟩), (40, ⟨[.tmp 0 false [.dat (.list (.pair (.pair .bool (.pair (.int .i64) (.pair .bool (.int .i64)))) (.pair (.int .i64) (.pair .str (.pair .str (.pair (.int .i64) (.pair .bool (.list (.int .u8)))))))))]], [.tmp 0 false [.own 1 67 (.pair (.pair .bool (.pair (.int .i64) (.pair .bool (.int .i64)))) (.pair (.int .i64) (.pair .str (.pair .str (.pair (.int .i64) (.pair .bool (.list (.int .u8))))))))]], cloneG⟩), (10, ⟨[.tmp 0 false [.pt 20000010 0], .tmp 1 false [.dat (.int .i64)], .mix 20000010 [.dat .bool, .own 20000012 37 UFt, .own 20000011 67 UPc, .dat (.int .i64), .dat (.int .i64), .dat (.int .i64)]], [.tmp 0 false [(.own 10000014 40 (.pair (.int .i64) (.pair .str (.pair .str (.pair (.int .i64) (.list (.int .u8)))))))], .tmp 1 false [(.dat (.int .u8))], .mix 20000010 [(.dat .bool), (.own 10000010 37 (.pair .bool (.pair (.int .i64) (.pair .bool (.int .i64))))), (.own 10000011 67 (.pair (.pair .bool (.pair (.int .i64) (.pair .bool (.int .i64)))) (.pair (.int .i64) (.pair .str (.pair .str (.pair (.int .i64) (.pair .bool (.list (.int .u8))))))))), (.dat (.int .i64)), (.dat (.int .i64)), (.dat (.int .i64))], .dead 20000011, .dead 20000012], carrier_Carrier_Receive⟩), (20, ⟨[.tmp 0 false [.pt 20000010 0], .mix 20000010 [.dat .bool, .own 20000012 37 UFt, .own 20000011 67 UPc, .dat (.int .i64), .dat (.int .i64), .dat (.int .i64)]], [.tmp 0 false [(.dat (.int .i64))], .tmp 1 false [(.dat .bool)]], carrier_Carrier_Next⟩), (11, ⟨[.tmp 0 false [.pt 20000010 0], .mix 20000010 [.dat .bool, .own 20000012 37 UFt, .own 20000011 67 UPc, .dat (.int .i64), .dat (.int .i64), .dat (.int .i64)]], [.tmp 0 false [(.dat (.int .i64))]], carrier_Carrier_Waiting⟩), (15, ⟨[.tmp 0 false [.pt 20000010 0], .mix 20000010 [.dat .bool, .own 20000012 37 UFt, .own 20000011 67 UPc, .dat (.int .i64), .dat (.int .i64), .dat (.int .i64)]], [.tmp 0 false [(.dat (.int .i64))]], carrier_Carrier_Sent⟩), (16, ⟨[.tmp 0 false [.pt 20000010 0], .mix 20000010 [.dat .bool, .own 20000012 37 UFt, .own 20000011 67 UPc, .dat (.int .i64), .dat (.int .i64), .dat (.int .i64)]], [.tmp 0 false [(.dat (.int .i64))]], carrier_Carrier_Lost⟩), (19, ⟨[.tmp 0 false [.pt 20000010 0], .mix 20000010 [.dat .bool, .own 20000012 37 UFt, .own 20000011 67 UPc, .dat (.int .i64), .dat (.int .i64), .dat (.int .i64)]], [.tmp 0 false [(.dat (.int .i64))]], carrier_Carrier_Now⟩), (18, ⟨[(.tmp 0 true [(.dat (.int .i64)), (.dat .str), (.dat .str), (.dat (.int .i64)), (.dat (.list (.int .u8)))]), (.tmp 1 false [(.dat (.int .i64))]), (.tmp 2 false [(.dat (.int .i64))]), (.tmp 3 false [(.dat .str)])], [(.tmp 0 false [(.dat .bool)])], dialtonelaw11_datagram⟩), (12, ⟨[(.tmp 0 false [(.dat (.list (.pair (.int .i64) (.pair .str (.pair .str (.pair (.int .i64) (.list (.int .u8))))))))]), (.tmp 1 false [(.dat (.int .i64))]), (.tmp 2 false [(.dat (.int .i64))]), (.tmp 3 false [(.dat (.int .u8))])], [(.tmp 0 false [(.dat .bool)])], dialtonelaw11_has⟩), (13, ⟨[(.tmp 0 false [(.dat (.list (.pair (.int .i64) (.pair .str (.pair .str (.pair (.int .i64) (.list (.int .u8))))))))]), (.tmp 1 false [(.dat (.list (.pair (.int .i64) (.pair .str (.pair .str (.pair (.int .i64) (.list (.int .u8))))))))])], [(.tmp 0 false [(.dat .bool)])], dialtonelaw11_alike⟩), (7, ⟨[(.tmp 0 false [(.dat (.list (.pair .bool (.pair (.int .i64) (.pair .bool (.int .i64))))))])], [(.tmp 0 false [(.dat (.list (.pair .bool (.pair (.int .i64) (.pair .bool (.int .i64))))))])], dialtonelaw11_fit⟩), (26, ⟨[(.tmp 0 false [(.dat (.list (.pair (.int .i64) (.pair .str (.pair .str (.pair (.int .i64) (.list (.int .u8))))))))]), (.tmp 1 false [(.dat (.list (.pair (.int .i64) (.pair .str (.pair .str (.pair (.int .i64) (.list (.int .u8))))))))])], [(.tmp 0 false [(.dat .bool)])], dialtoneref11_Same⟩), (39, ⟨[(.tmp 0 false [(.dat (.int .i64))])], [(.tmp 0 false [(.dat .bool)])], dialtoneref11_delay⟩), (41, ⟨[.tmp 0 false [.pt 20000030 0], .mix 20000030 [.own 20000032 37 UFt, .own 20000031 40 UDg, .dat (.int .i64), .dat (.int .i64), .dat (.int .i64)]], [.tmp 0 false [(.dat (.int .i64))]], dialtoneref11_Carrier_first⟩), (42, ⟨[.tmp 0 false [.pt 20000030 0], .mix 20000030 [.own 20000032 37 UFt, .own 20000031 40 UDg, .dat (.int .i64), .dat (.int .i64), .dat (.int .i64)]], [.tmp 0 false [(.dat (.int .i64))], .tmp 1 false [(.dat .bool)]], dialtoneref11_Carrier_Next⟩), (24, ⟨[.tmp 0 false [.pt 20000030 0], .tmp 1 false [.dat .str], .tmp 2 false [.dat .str], .tmp 3 false [.dat (.list (.int .u8))], .tmp 4 false [.dat (.int .i64)], .mix 20000030 [.own 20000032 37 UFt, .own 20000031 40 UDg, .dat (.int .i64), .dat (.int .i64), .dat (.int .i64)]], [.tmp 0 false [(.dat (.int .i64))], .tmp 1 false [(.dat (.int .u8))], .mix 20000030 [(.own 10000001 37 (.pair .bool (.pair (.int .i64) (.pair .bool (.int .i64))))), (.own 10000002 40 (.pair (.int .i64) (.pair .str (.pair .str (.pair (.int .i64) (.list (.int .u8))))))), (.dat (.int .i64)), (.dat (.int .i64)), (.dat (.int .i64))], .dead 20000031, .dead 20000032], dialtoneref11_Carrier_Send⟩), (25, ⟨[.tmp 0 false [.pt 20000030 0], .tmp 1 false [.dat (.int .i64)], .mix 20000030 [.own 20000032 37 UFt, .own 20000031 40 UDg, .dat (.int .i64), .dat (.int .i64), .dat (.int .i64)]], [.tmp 0 false [(.own 10000009 40 (.pair (.int .i64) (.pair .str (.pair .str (.pair (.int .i64) (.list (.int .u8)))))))], .tmp 1 false [(.dat (.int .u8))], .mix 20000030 [(.own 10000001 37 (.pair .bool (.pair (.int .i64) (.pair .bool (.int .i64))))), (.own 10000002 40 (.pair (.int .i64) (.pair .str (.pair .str (.pair (.int .i64) (.list (.int .u8))))))), (.dat (.int .i64)), (.dat (.int .i64)), (.dat (.int .i64))], .dead 20000032, .dead 20000031], dialtoneref11_Carrier_Receive⟩), (14, ⟨[], riB, (fun _ => some true)⟩)]
theorem cons3_ok : ConL Try.prog cons3 := ⟨con37, con33, con38, con35, con46, con49, con48, con47, con45, con43, clone_con28, clone_con40, con10, con20, con11, con15, con16, con19, con18, con12, con13, con7, con26, con39, con41, con42, con24, con25, con_true (by kernel_rfl) lives_o, trivial⟩
theorem con3 : ConOk Try.prog 3 ⟨[(.tmp 0 false [(.dat (.list (.pair .bool (.pair (.int .i64) (.pair .bool (.int .i64))))))]), (.tmp 1 false [(.dat (.list (.int .u8)))])], [(.tmp 0 false [(.dat .bool)])], dialtonelaw11_CarrierDelivers⟩ :=
  tree_ok (plan := planOf plan3) (eg := egNo) KK tabL_ok (conOf_ok cons3_ok) Try.func3 (by kernel_rfl) (by kernel_rfl) 10000 (fun a r h => Eq.trans (show _ = dialtonelaw11_CarrierDelivers a from by kernel_rfl) h)
end Go.Proofs.Ytkhdpjlpahammaa
