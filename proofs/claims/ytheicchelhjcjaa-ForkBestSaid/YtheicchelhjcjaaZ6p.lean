import Derived.Test.YtheicchelhjcjaaFp
import Derived.Test.YtheicchelhjcjaaXBp
import Derived.Test.YtheicchelhjcjaaZ2p
set_option linter.unusedVariables false
set_option maxRecDepth 1000000
set_option maxHeartbeats 0
namespace Go.Proofs.Ytheicchelhjcjaa
open Go.RowKit
def plan22 : List (Nat × PL) := [(134479889, (.carry [.tmp 0 true [(.own 10000007 49 (.pair .str (.pair (.int .i64) (.pair (.int .u8) (.int .i64))))), (.dat (.int .i64)), (.dat .bool), (.dat .bool), (.dat .bool)], .tmp 1 false [(.own 10000010 53 (.pair (.int .u8) (.pair (.int .i64) (.int .i64))))], .tmp 2 false [(.dat (.int .u8))]])), (9241387603729842689, (.carry [.mp 20])), (1240358047739983811381037062, (.carry [.tmp 18 false [(.dat (.int .i64))], .mp 20])), (2422574311992155881865729, (.carry [.mix 24 [(.own 10000004 49 (.pair .str (.pair (.int .i64) (.pair (.int .u8) (.int .i64))))), (.dat (.int .i64)), (.dat .bool), (.dat .bool), (.dat .bool), .nil]])), (35253226045953, (.carry [.tmp 11 false [(.own 10000005 38 (.pair (.int .u8) (.pair (.int .i64) (.int .i64))))], .tmp 9 false [(.own 10000006 53 (.pair (.int .u8) (.pair (.int .i64) (.int .i64))))], .mix 10 [(.dat (.list (.pair .str (.pair (.int .i64) (.pair (.int .u8) (.int .i64)))))), (.dat (.int .i64)), (.dat .bool), (.dat .bool), (.dat .bool)], .dead 10000010, .dead 10000007])), (22344304166431147924708599637946471417905665, (.carry [])), (325152420066750316285854413490182, (.carry [.tmp 49 false [(.dat (.int .i64))], .mix 24 [(.own 10000001 49 (.pair .str (.pair (.int .i64) (.pair (.int .u8) (.int .i64))))), (.dat (.int .i64)), (.dat .bool), (.dat .bool), (.dat .bool), .nil]])), (325152420066750316285854547453460, (.carry [.row 10000004 49 (.pair .str (.pair (.int .i64) (.pair (.int .u8) (.int .i64))))])), (4731607904558101301254, (.carry [.tmp 12 false [(.dat (.int .i64))], .tmp 11 false [(.own 10000002 38 (.pair (.int .u8) (.pair (.int .i64) (.int .i64))))], .tmp 9 false [(.own 10000003 53 (.pair (.int .u8) (.pair (.int .i64) (.int .i64))))], .mix 10 [(.dat (.list (.pair .str (.pair (.int .i64) (.pair (.int .u8) (.int .i64)))))), (.dat (.int .i64)), (.dat .bool), (.dat .bool), (.dat .bool)], .dead 10000010, .dead 10000007])), (43641219075060835795168795897671587201537, (.carry [])), (325152420066750316285854547705872, (.carry [.mix 24 [(.own 10000008 49 (.pair .str (.pair (.int .i64) (.pair (.int .u8) (.int .i64))))), (.dat (.int .i64)), (.dat .bool), (.dat .bool), (.dat .bool), (.own 10000009 53 (.pair (.int .u8) (.pair (.int .i64) (.int .i64))))], .dead 10000004])), (11440283733212747738688728831799220555359455238, .once), (11440283733212747738688728831799220555359715348, (.carry [.row 10000004 49 (.pair .str (.pair (.int .i64) (.pair (.int .u8) (.int .i64))))])), (11440283733212747738688728840680178217010855954, (.carry [.tmp 0 false [(.dat (.int .i64))]])), (786170311857752648767456708102238993976957084345509609492, (.carry [.row 10000004 49 (.pair .str (.pair (.int .i64) (.pair (.int .u8) (.int .i64))))])), (1535488890347173142123938883012185535111279216735553542, (.carry [.tmp 8 false [(.dat (.int .i64))], .row 10000004 49 (.pair .str (.pair (.int .i64) (.pair (.int .u8) (.int .i64))))])), (5857425271404926842208629161881200924344174512134, .once), (2999001738959322543210818133211264638520093823205889, (.carry [])), (105517993078599019703550039699841709484592864214358666788183738374, (.carry [.tmp 8 false [(.dat (.int .i64))], .row 10000004 49 (.pair .str (.pair (.int .i64) (.pair (.int .u8) (.int .i64))))])), (5857425271404926842208629161881200924344041082374, .stop), (402519199671169356168937834548346364916211178991924947714561, (.carry [.tmp 9 false [(.dat (.int .i64))], .row 10000004 49 (.pair .str (.pair (.int .i64) (.pair (.int .u8) (.int .i64))))])), (402519199671169356168937834548346364916211196443716697981441, (.carry [])), (402519199671169356168937834860817283788908275297527963846662, (.carry [.tmp 8 false [(.dat (.int .i64))]])), (27660908777596261421167421607075305091129111796608838346521637912314369, (.carry [.tmp 9 false [(.dat (.int .i64))], .row 10000004 49 (.pair .str (.pair (.int .i64) (.pair (.int .u8) (.int .i64))))])), (27660908777596261421167421607075305091129740703998718376328722825611270, (.carry [.tmp 9 false [(.dat (.int .i64))], .row 10000004 49 (.pair .str (.pair (.int .i64) (.pair (.int .u8) (.int .i64))))])), (105517993078599019703550039699841709484595267880541670075646609414, .once), (2999001738959322543210818130883174873264217350213126, .stop), (22344304166431147927126423516953473209073685, (.carry [.tmp 0 false [(.dat (.int .i64))]])), (1900843177238644484732488927088515161209949358079404230445778403035902820231677958, (.carry [.tmp 9 false [(.dat (.int .i64))], .row 10000004 49 (.pair .str (.pair (.int .i64) (.pair (.int .u8) (.int .i64))))])), (5857425271404926842208629166428251280919412081153, (.carry [])), (1535488890347173142123938884204167503785372101865111569, (.carry [.row 10000004 49 (.pair .str (.pair (.int .i64) (.pair (.int .u8) (.int .i64))))])), (786170311857752648767456708712533761938093240627973326854, (.carry [.tmp 8 false [(.dat (.int .i64))]])), (206089830231638710358496171448738450489504043146919837257959430, (.carry [.tmp 9 false [(.dat (.int .i64))], .row 10000004 49 (.pair .str (.pair (.int .i64) (.pair (.int .u8) (.int .i64))))])), (786170311857752648767456708712533761938110551339175249926, (.carry [.tmp 65 false [(.dat (.int .i64))], .mix 24 [(.own 10000011 49 (.pair .str (.pair (.int .i64) (.pair (.int .u8) (.int .i64))))), (.dat (.int .i64)), (.dat .bool), (.dat .bool), (.dat .bool), (.own 10000012 53 (.pair (.int .u8) (.pair (.int .i64) (.int .i64))))], .dead 10000004]))]
noncomputable def dialtonelaw23_run : ((List ((List UInt8) × Int)) × (List (Int × (Int × Int)))) → Option (((List ((List UInt8) × (Int × (Int × Int)))) × (Int × (Bool × (Bool × Bool)))) × ((List (Int × (Int × Int))) × ((List (Int × (Int × Int))) × Bool))) := fun (a1, a2) =>
 joinO (bif (decide ((((List.length a1) : Nat) : Int) > (16 : Int))) then
 some (Sum.inl ((([] : List ((List UInt8) × (Int × (Int × Int)))), ((0 : Int), (Bool.false, (Bool.false, Bool.false)))), (([] : List (Int × (Int × Int))), (4 : Int))))
 else
 joinO (loopO (fun (v3, v4) =>
 bif (decide (v3 < (((List.length a1) : Nat) : Int))) then
 bif (decide (((0 : Int) ≤ v3) ∧ (v3 < (((List.length a1) : Nat) : Int)))) then 
 bindO a1[(Int.toNat v3)]? fun x5 =>
 joinO (bif (decide (x5.1 = ([] : List UInt8))) then
 outO (outO (outO (some (Sum.inl ((([] : List ((List UInt8) × (Int × (Int × Int)))), ((0 : Int), (Bool.false, (Bool.false, Bool.false)))), (([] : List (Int × (Int × Int))), (2 : Int)))))))
 else
 bif (decide (x5.2 < (0 : Int))) then
 outO (outO (outO (some (Sum.inl ((([] : List ((List UInt8) × (Int × (Int × Int)))), ((0 : Int), (Bool.false, (Bool.false, Bool.false)))), (([] : List (Int × (Int × Int))), (2 : Int)))))))
 else
 bif (decide (x5.2 > (1000 : Int))) then
 outO (outO (outO (some (Sum.inl ((([] : List ((List UInt8) × (Int × (Int × Int)))), ((0 : Int), (Bool.false, (Bool.false, Bool.false)))), (([] : List (Int × (Int × Int))), (2 : Int)))))))
 else
 some (Sum.inl ())) fun _ =>
 bif (decide (Membership.mem v4 x5.1)) then
 outO (outO (some (Sum.inl ((([] : List ((List UInt8) × (Int × (Int × Int)))), ((0 : Int), (Bool.false, (Bool.false, Bool.false)))), (([] : List (Int × (Int × Int))), (7 : Int))))))
 else
 some (Sum.inl ((Go.IntKind.wrap .i64 (v3 + (1 : Int))), (addK v4 x5.1)))
 else none
 else
 outO (some (Sum.inl v4))) ((0 : Int), ([] : List (List UInt8)))) fun v7 =>
 joinO (loopO (fun (v8, (v9, (v10, (v11, (v12, v13))))) =>
 bif (decide (v8 < (((List.length a1) : Nat) : Int))) then
 bif (decide (((0 : Int) ≤ v8) ∧ (v8 < (((List.length a1) : Nat) : Int)))) then 
 bindO a1[(Int.toNat v8)]? fun x14 =>
 bif (decide ((List.length v9) ≤ (List.length v9))) then 
 bif (decide (((List.length ((List.take (List.length v9) v9) ++ ((x14.1, (x14.2, ((0 : Int), (0 : Int)))) :: ([] : List ((List UInt8) × (Int × (Int × Int))))))) * 40) ≤ 140737488355328)) then 
 bindO (some ((List.take (List.length v9) v9) ++ ((x14.1, (x14.2, ((0 : Int), (0 : Int)))) :: ([] : List ((List UInt8) × (Int × (Int × Int))))))) fun x15 =>
 bif (decide ((List.length x15) ≤ (List.length x15))) then 
 some (Sum.inl ((Go.IntKind.wrap .i64 (v8 + (1 : Int))), ((List.take (List.length x15) x15), (v10, (v11, (v12, v13))))))
 else none
 else none
 else none
 else none
 else
 outO (bif (decide ((List.length v9) ≤ (List.length v9))) then 
 some (Sum.inl ((List.take (List.length v9) v9), (v10, (v11, (v12, v13)))))
 else none)) ((0 : Int), (([] : List ((List UInt8) × (Int × (Int × Int)))), ((-1 : Int), (Bool.false, (Bool.false, Bool.false)))))) fun (v17, (v18, (v19, (v20, v21)))) =>
 joinO (joinO (bif (decide ((20 : Int) ≤ (((List.length v17) : Nat) : Int))) then
 joinO (loopO (fun (v22, v23) =>
 bif (decide (v22 < (20 : Int))) then
 joinO (loopO (fun (v24, v25) =>
 bif (decide (v24 > (0 : Int))) then
 bif (decide (((0 : Int) ≤ v24) ∧ (v24 < (((List.length v17) : Nat) : Int)))) then 
 bindO v25[(Int.toNat v24)]? fun x26 =>
 bindO (some (Go.IntKind.wrap .i64 (v24 - (1 : Int)))) fun x27 =>
 bif (decide (((0 : Int) ≤ x27) ∧ (x27 < (((List.length v17) : Nat) : Int)))) then 
 bindO v25[(Int.toNat x27)]? fun x28 =>
 bif (decide ((Go.IntKind.wrap .i64 (x28.2.1 - x26.2.1)) < (0 : Int))) then
 bindO (some (Go.IntKind.wrap .i64 (v24 - (1 : Int)))) fun x30 =>
 bindO (some (Go.IntKind.wrap .i64 (v24 - (1 : Int)))) fun x31 =>
 bif (decide (((0 : Int) ≤ x31) ∧ (x31 < (((List.length v17) : Nat) : Int)))) then 
 bindO v25[(Int.toNat x31)]? fun x32 =>
 bif (decide (((0 : Int) ≤ v24) ∧ (v24 < (((List.length v17) : Nat) : Int)))) then 
 bindO v25[(Int.toNat v24)]? fun x33 =>
 bif (decide (((0 : Int) ≤ v24) ∧ (v24 < (((List.length v17) : Nat) : Int)))) then 
 bindO v25[(Int.toNat v24)]? fun x34 =>
 bif (decide (((0 : Int) ≤ x30) ∧ (x30 < (((List.length v17) : Nat) : Int)))) then 
 bindO (List.set v25 (Int.toNat v24) (x32.1, (x32.2.1, (x32.2.2.1, x32.2.2.2))))[(Int.toNat x30)]? fun x35 =>
 some (Sum.inl ((Go.IntKind.wrap .i64 (v24 - (1 : Int))), (List.set (List.set v25 (Int.toNat v24) (x32.1, (x32.2.1, (x32.2.2.1, x32.2.2.2)))) (Int.toNat x30) (x33.1, (x33.2.1, (x33.2.2.1, x33.2.2.2))))))
 else none
 else none
 else none
 else none
 else
 outO (some (Sum.inl (v24, v25)))
 else none
 else none
 else
 outO (some (Sum.inl (v24, v25)))) (v22, v23)) fun (v37, v38) =>
 some (Sum.inl ((Go.IntKind.wrap .i64 (v22 + (1 : Int))), v38))
 else
 outO (some (Sum.inl v23))) ((1 : Int), v17)) fun v40 =>
 none 
 else
 some (Sum.inl ())) fun _ =>
 joinO (loopO (fun (v41, v42) =>
 bif (decide (v41 < (((List.length v17) : Nat) : Int))) then
 joinO (loopO (fun (v43, v44) =>
 bif (decide (v43 > (0 : Int))) then
 bif (decide (((0 : Int) ≤ v43) ∧ (v43 < (((List.length v17) : Nat) : Int)))) then 
 bindO v44[(Int.toNat v43)]? fun x45 =>
 bindO (some (Go.IntKind.wrap .i64 (v43 - (1 : Int)))) fun x46 =>
 bif (decide (((0 : Int) ≤ x46) ∧ (x46 < (((List.length v17) : Nat) : Int)))) then 
 bindO v44[(Int.toNat x46)]? fun x47 =>
 bif (decide ((Go.IntKind.wrap .i64 (x47.2.1 - x45.2.1)) < (0 : Int))) then
 bindO (some (Go.IntKind.wrap .i64 (v43 - (1 : Int)))) fun x49 =>
 bindO (some (Go.IntKind.wrap .i64 (v43 - (1 : Int)))) fun x50 =>
 bif (decide (((0 : Int) ≤ x50) ∧ (x50 < (((List.length v17) : Nat) : Int)))) then 
 bindO v44[(Int.toNat x50)]? fun x51 =>
 bif (decide (((0 : Int) ≤ v43) ∧ (v43 < (((List.length v17) : Nat) : Int)))) then 
 bindO v44[(Int.toNat v43)]? fun x52 =>
 bif (decide (((0 : Int) ≤ v43) ∧ (v43 < (((List.length v17) : Nat) : Int)))) then 
 bindO v44[(Int.toNat v43)]? fun x53 =>
 bif (decide (((0 : Int) ≤ x49) ∧ (x49 < (((List.length v17) : Nat) : Int)))) then 
 bindO (List.set v44 (Int.toNat v43) (x51.1, (x51.2.1, (x51.2.2.1, x51.2.2.2))))[(Int.toNat x49)]? fun x54 =>
 some (Sum.inl ((Go.IntKind.wrap .i64 (v43 - (1 : Int))), (List.set (List.set v44 (Int.toNat v43) (x51.1, (x51.2.1, (x51.2.2.1, x51.2.2.2)))) (Int.toNat x49) (x52.1, (x52.2.1, (x52.2.2.1, x52.2.2.2))))))
 else none
 else none
 else none
 else none
 else
 outO (some (Sum.inl (v43, v44)))
 else none
 else none
 else
 outO (some (Sum.inl (v43, v44)))) (v41, v42)) fun (v56, v57) =>
 some (Sum.inl ((Go.IntKind.wrap .i64 (v41 + (1 : Int))), v57))
 else
 outO (some (Sum.inl v42))) ((1 : Int), v17)) fun v59 =>
 bif (decide ((20 : Int) < (((List.length v17) : Nat) : Int))) then
 joinO (bif (decide ((40 : Int) ≤ (((List.length v17) : Nat) : Int))) then
 none 
 else
 some (Sum.inl ())) fun _ =>
 bif (decide ((20 : Int) < (((List.length v17) : Nat) : Int))) then
 none 
 else
 none 
 else
 some (Sum.inl v59)) fun v60 =>
 joinO (joinO (joinO (loopO (fun v61 =>
 bif (decide (v61 < (((List.length v17) : Nat) : Int))) then
 bif (decide (((0 : Int) ≤ v61) ∧ (v61 < (((List.length v17) : Nat) : Int)))) then 
 bindO v60[(Int.toNat v61)]? fun x62 =>
 bindO (fork_open x62.2.2.1) fun x63 =>
 bif x63 then
 outO (outO (some (Sum.inl v61)))
 else
 some (Sum.inl (Go.IntKind.wrap .i64 (v61 + (1 : Int))))
 else none
 else
 outO (some (Sum.inl ()))) (0 : Int)) fun _ =>
 some (Sum.inl (-1 : Int))) fun v65 =>
 bif v21 then
 bif (decide ((List.length v17) ≤ (List.length v60))) then 
 some (Sum.inl ((List.take (List.length v17) v60), (v18, (v19, (v20, (v21, ([] : List (Int × (Int × Int)))))))))
 else none
 else
 bif (decide (v65 ≥ (0 : Int))) then
 bif (decide ((List.length v17) ≤ (List.length v60))) then 
 some (Sum.inl ((List.take (List.length v17) v60), (v18, (v19, (v20, (v21, ([] : List (Int × (Int × Int)))))))))
 else none
 else
 joinO (joinO (loopO (fun v66 =>
 bif (decide (v66 < (((List.length v17) : Nat) : Int))) then
 bif (decide (((0 : Int) ≤ v66) ∧ (v66 < (((List.length v17) : Nat) : Int)))) then 
 bindO v60[(Int.toNat v66)]? fun x67 =>
 bif (decide (x67.2.2.1 = (0 : Int))) then
 outO (outO (some (Sum.inl v66)))
 else
 some (Sum.inl (Go.IntKind.wrap .i64 (v66 + (1 : Int))))
 else none
 else
 outO (some (Sum.inl ()))) (0 : Int)) fun _ =>
 some (Sum.inl (-1 : Int))) fun v69 =>
 bif v20 then
 joinO (loopO (fun (v70, v71) =>
 bif (decide (v70 < (((List.length v17) : Nat) : Int))) then
 bif (decide (((0 : Int) ≤ v70) ∧ (v70 < (((List.length v17) : Nat) : Int)))) then 
 bindO v71[(Int.toNat v70)]? fun x72 =>
 bif (decide (x72.2.2.1 = (0 : Int))) then
 bif (decide (((0 : Int) ≤ v70) ∧ (v70 < (((List.length v17) : Nat) : Int)))) then 
 bindO v71[(Int.toNat v70)]? fun x73 =>
 some (Sum.inl ((Go.IntKind.wrap .i64 (v70 + (1 : Int))), (List.set v71 (Int.toNat v70) (x73.1, (x73.2.1, ((6 : Int), x73.2.2.2))))))
 else none
 else
 some (Sum.inl ((Go.IntKind.wrap .i64 (v70 + (1 : Int))), v71))
 else none
 else
 outO (some (Sum.inl v71))) ((0 : Int), v60)) fun v76 =>
 bif (decide ((List.length v17) ≤ (List.length v76))) then 
 bindO (fork_Best ((List.take (List.length v17) v76), (v18, (v19, (v20, Bool.true))))) fun x77 =>
 bindO (some (((6 : Int), ((-1 : Int), x77)) :: ([] : List (Int × (Int × Int))))) fun x78 =>
 bif ((decide ((List.length v17) ≤ (List.length v76))) && (decide ((List.length x78) ≤ (List.length x78)))) then 
 some (Sum.inl ((List.take (List.length v17) v76), (v18, (v19, (v20, (Bool.true, (List.take (List.length x78) x78)))))))
 else none
 else none
 else
 bif (decide (v69 < (0 : Int))) then
 joinO (loopO (fun (v79, v80) =>
 bif (decide (v79 < (((List.length v17) : Nat) : Int))) then
 bif (decide (((0 : Int) ≤ v79) ∧ (v79 < (((List.length v17) : Nat) : Int)))) then 
 bindO v80[(Int.toNat v79)]? fun x81 =>
 bif (decide (x81.2.2.1 = (0 : Int))) then
 bif (decide (((0 : Int) ≤ v79) ∧ (v79 < (((List.length v17) : Nat) : Int)))) then 
 bindO v80[(Int.toNat v79)]? fun x82 =>
 some (Sum.inl ((Go.IntKind.wrap .i64 (v79 + (1 : Int))), (List.set v80 (Int.toNat v79) (x82.1, (x82.2.1, ((6 : Int), x82.2.2.2))))))
 else none
 else
 some (Sum.inl ((Go.IntKind.wrap .i64 (v79 + (1 : Int))), v80))
 else none
 else
 outO (some (Sum.inl v80))) ((0 : Int), v60)) fun v85 =>
 bif (decide ((List.length v17) ≤ (List.length v85))) then 
 bindO (fork_Best ((List.take (List.length v17) v85), (v18, (v19, (v20, Bool.true))))) fun x86 =>
 bindO (some (((6 : Int), ((-1 : Int), x86)) :: ([] : List (Int × (Int × Int))))) fun x87 =>
 bif ((decide ((List.length v17) ≤ (List.length v85))) && (decide ((List.length x87) ≤ (List.length x87)))) then 
 some (Sum.inl ((List.take (List.length v17) v85), (v18, (v19, (v20, (Bool.true, (List.take (List.length x87) x87)))))))
 else none
 else none
 else
 bif (decide (((0 : Int) ≤ v69) ∧ (v69 < (((List.length v17) : Nat) : Int)))) then 
 bindO v60[(Int.toNat v69)]? fun x88 =>
 bif (decide ((List.length v17) ≤ (List.length v60))) then 
 loopO (fun (v89, (v90, (v91, (v92, (v93, (v94, v95)))))) =>
 bif (decide (v89 < (((List.length v17) : Nat) : Int))) then
 bif (decide (((0 : Int) ≤ v89) ∧ (v89 < (((List.length v90) : Nat) : Int)))) then 
 bindO v90[(Int.toNat v89)]? fun x96 =>
 bif (decide (x96.2.2.1 = (0 : Int))) then
 bif (decide (x96.2.1 = x88.2.1)) then
 bif (decide (((0 : Int) ≤ v89) ∧ (v89 < (((List.length v90) : Nat) : Int)))) then 
 bindO v90[(Int.toNat v89)]? fun x97 =>
 bif (decide ((List.length v95) ≤ (List.length v95))) then 
 bif (decide (((List.length ((List.take (List.length v95) v95) ++ (((1 : Int), (v89, (0 : Int))) :: ([] : List (Int × (Int × Int)))))) * 24) ≤ 140737488355328)) then 
 bindO (some ((List.take (List.length v95) v95) ++ (((1 : Int), (v89, (0 : Int))) :: ([] : List (Int × (Int × Int)))))) fun x98 =>
 bif ((decide ((List.length v90) ≤ (List.length (List.set v90 (Int.toNat v89) (x97.1, (x97.2.1, ((1 : Int), x97.2.2.2))))))) && (decide ((List.length x98) ≤ (List.length x98)))) then 
 some (Sum.inl ((Go.IntKind.wrap .i64 (v89 + (1 : Int))), ((List.take (List.length v90) (List.set v90 (Int.toNat v89) (x97.1, (x97.2.1, ((1 : Int), x97.2.2.2))))), (v91, (v92, (v93, (v94, (List.take (List.length x98) x98))))))))
 else none
 else none
 else none
 else none
 else
 bif ((decide ((List.length v90) ≤ (List.length v90))) && (decide ((List.length v95) ≤ (List.length v95)))) then 
 some (Sum.inl ((Go.IntKind.wrap .i64 (v89 + (1 : Int))), ((List.take (List.length v90) v90), (v91, (v92, (v93, (v94, (List.take (List.length v95) v95))))))))
 else none
 else
 bif ((decide ((List.length v90) ≤ (List.length v90))) && (decide ((List.length v95) ≤ (List.length v95)))) then 
 some (Sum.inl ((Go.IntKind.wrap .i64 (v89 + (1 : Int))), ((List.take (List.length v90) v90), (v91, (v92, (v93, (v94, (List.take (List.length v95) v95))))))))
 else none
 else none
 else
 outO (bif ((decide ((List.length v90) ≤ (List.length v90))) && (decide ((List.length v95) ≤ (List.length v95)))) then 
 some (Sum.inl ((List.take (List.length v90) v90), (v91, (v92, (v93, (v94, (List.take (List.length v95) v95)))))))
 else none)) ((0 : Int), ((List.take (List.length v17) v60), (v18, (v19, (v20, (v21, ([] : List (Int × (Int × Int)))))))))
 else none
 else none) fun (v102, (v103, (v104, (v105, (v106, v107))))) =>
 bif ((decide ((List.length v102) ≤ (List.length v102))) && (decide ((List.length v107) ≤ (List.length v107)))) then 
 some (Sum.inl (((List.take (List.length v102) v102), (v103, (v104, (v105, v106)))), ((List.take (List.length v107) v107), (0 : Int))))
 else none) fun ((v108, (v109, (v110, (v111, v112)))), (v113, v114)) =>
 bif (decide (v114 ≠ (0 : Int))) then
 bif (decide ((List.length v108) ≤ (List.length v108))) then 
 some (((List.take (List.length v108) v108), (v109, (v110, (v111, v112)))), (([] : List (Int × (Int × Int))), (([] : List (Int × (Int × Int))), Bool.false)))
 else none
 else
 joinO (bif ((decide ((List.length v113) ≤ (List.length v113))) && (decide ((List.length v108) ≤ (List.length v108)))) then 
 loopO (fun (v115, (v116, (v117, (v118, (v119, (v120, (v121, v122))))))) =>
 bif (decide (v115 < (((List.length a2) : Nat) : Int))) then
 bif (decide (v115 < (60 : Int))) then
 bif (decide (((0 : Int) ≤ v115) ∧ (v115 < (((List.length a2) : Nat) : Int)))) then 
 bindO a2[(Int.toNat v115)]? fun x123 =>
 bindO (fork_Step ((v118, (v119, (v120, (v121, v122)))), (x123.1, (x123.2.1, x123.2.2)))) fun ((x125, (x126, (x127, (x128, x129)))), (x130, x131)) =>
 bif (decide (x131 = (0 : Int))) then
 bif (decide ((List.length v117) ≤ (List.length v117))) then 
 bif (decide (((List.length ((List.take (List.length v117) v117) ++ x130)) * 24) ≤ 140737488355328)) then 
 bindO (some ((List.take (List.length v117) v117) ++ x130)) fun x132 =>
 bif (decide (((0 : Int) ≤ v115) ∧ (v115 < (((List.length a2) : Nat) : Int)))) then 
 bindO a2[(Int.toNat v115)]? fun x133 =>
 bif (decide ((List.length v116) ≤ (List.length v116))) then 
 bif (decide (((List.length ((List.take (List.length v116) v116) ++ ((x133.1, (x133.2.1, x133.2.2)) :: ([] : List (Int × (Int × Int)))))) * 24) ≤ 140737488355328)) then 
 bindO (some ((List.take (List.length v116) v116) ++ ((x133.1, (x133.2.1, x133.2.2)) :: ([] : List (Int × (Int × Int)))))) fun x134 =>
 bif ((decide ((List.length x134) ≤ (List.length x134))) && (decide ((List.length x132) ≤ (List.length x132)))) then 
 some (Sum.inl ((Go.IntKind.wrap .i64 (v115 + (1 : Int))), ((List.take (List.length x134) x134), ((List.take (List.length x132) x132), (x125, (x126, (x127, (x128, x129))))))))
 else none
 else none
 else none
 else none
 else none
 else none
 else
 bif ((decide ((List.length v116) ≤ (List.length v116))) && (decide ((List.length v117) ≤ (List.length v117)))) then 
 some (Sum.inl ((Go.IntKind.wrap .i64 (v115 + (1 : Int))), ((List.take (List.length v116) v116), ((List.take (List.length v117) v117), (v118, (v119, (v120, (v121, v122))))))))
 else none
 else none
 else
 outO (bif ((decide ((List.length v116) ≤ (List.length v116))) && (decide ((List.length v117) ≤ (List.length v117)))) then 
 some (Sum.inl ((List.take (List.length v116) v116), ((List.take (List.length v117) v117), (v118, (v119, (v120, (v121, v122)))))))
 else none)
 else
 outO (bif ((decide ((List.length v116) ≤ (List.length v116))) && (decide ((List.length v117) ≤ (List.length v117)))) then 
 some (Sum.inl ((List.take (List.length v116) v116), ((List.take (List.length v117) v117), (v118, (v119, (v120, (v121, v122)))))))
 else none)) ((0 : Int), (([] : List (Int × (Int × Int))), ((List.take (List.length v113) v113), ((List.take (List.length v108) v108), (v109, (v110, (v111, v112)))))))
 else none) fun (v137, (v138, (v139, (v140, (v141, (v142, v143)))))) =>
 bif ((decide ((List.length v138) ≤ (List.length v138))) && (decide ((List.length v137) ≤ (List.length v137)))) then 
 some ((v139, (v140, (v141, (v142, v143)))), ((List.take (List.length v138) v138), ((List.take (List.length v137) v137), Bool.true)))
 else none
noncomputable def cons22 : List (Nat × CE) := [(63, ⟨[(.tmp 0 false [(.dat (.int .u8))])], [(.tmp 0 false [(.dat .bool)])], fork_live⟩), (50, ⟨[(.tmp 0 false [(.dat (.int .u8))])], [(.tmp 0 false [(.dat .bool)])], fork_open⟩), (32, ⟨[(.tmp 0 false [(.dat (.list (.pair .str (.pair (.int .i64) (.pair (.int .u8) (.int .i64))))))])], [(.tmp 0 false [(.dat .bool)])], fork_validOrder⟩), (34, ⟨[(.tmp 0 true [(.dat (.list (.pair .str (.pair (.int .i64) (.pair (.int .u8) (.int .i64)))))), (.dat (.int .i64)), (.dat .bool), (.dat .bool), (.dat .bool)]), (.tmp 1 true [(.dat (.int .i64)), (.dat (.int .i64)), (.dat (.int .i64)), (.dat (.int .i64)), (.dat .bool), (.dat .bool)])], [(.tmp 0 false [(.dat .bool)])], fork_validWinner⟩), (33, ⟨[(.tmp 0 false [(.dat (.list (.pair .str (.pair (.int .i64) (.pair (.int .u8) (.int .i64))))))])], [(.tmp 0 true [(.dat (.int .i64)), (.dat (.int .i64)), (.dat (.int .i64)), (.dat (.int .i64)), (.dat .bool), (.dat .bool)])], fork_count⟩), (31, ⟨[(.tmp 0 false [(.dat (.list (.pair .str (.pair (.int .i64) (.pair (.int .u8) (.int .i64))))))])], [(.tmp 0 false [(.dat .bool)])], fork_validBranches⟩), (15, ⟨[(.tmp 0 true [(.dat (.list (.pair .str (.pair (.int .i64) (.pair (.int .u8) (.int .i64)))))), (.dat (.int .i64)), (.dat .bool), (.dat .bool), (.dat .bool)])], [(.tmp 0 false [(.dat .bool)])], fork_Valid⟩), (17, ⟨[(.tmp 0 true [(.dat (.list (.pair .str (.pair (.int .i64) (.pair (.int .u8) (.int .i64)))))), (.dat (.int .i64)), (.dat .bool), (.dat .bool), (.dat .bool)])], [(.tmp 0 false [(.dat (.int .i64))])], fork_Best⟩), (36, ⟨[(.tmp 0 true [(.dat (.list (.pair .str (.pair (.int .i64) (.pair (.int .u8) (.int .i64)))))), (.dat (.int .i64)), (.dat .bool), (.dat .bool), (.dat .bool)]), (.tmp 1 true [(.dat (.int .u8)), (.dat (.int .i64)), (.dat (.int .i64))])], [(.tmp 0 false [(.dat (.int .u8))])], fork_check⟩), (46, ⟨[(.tmp 0 true [(.dat .str), (.dat (.int .i64)), (.dat (.int .u8)), (.dat (.int .i64))])], [(.tmp 0 false [(.dat .bool)])], dialtoneref23_Open⟩), (24, ⟨[(.tmp 0 true [(.dat (.list (.pair .str (.pair (.int .i64) (.pair (.int .u8) (.int .i64)))))), (.dat (.int .i64)), (.dat .bool), (.dat .bool), (.dat .bool)])], [(.tmp 0 false [(.dat .bool)])], dialtoneref23_AnyOpen⟩), (60, ⟨[(.tmp 0 true [(.dat .str), (.dat (.int .i64)), (.dat (.int .u8)), (.dat (.int .i64))])], [(.tmp 0 false [(.dat .bool)])], dialtoneref23_Live⟩), (59, ⟨[(.tmp 0 true [(.dat .str), (.dat (.int .i64)), (.dat (.int .u8)), (.dat (.int .i64))])], [(.tmp 0 false [(.dat .bool)])], dialtoneref23_early⟩), (35, ⟨[(.tmp 0 true [(.dat (.list (.pair .str (.pair (.int .i64) (.pair (.int .u8) (.int .i64)))))), (.dat (.int .i64)), (.dat .bool), (.dat .bool), (.dat .bool)]), (.tmp 1 false [(.dat (.int .i64))])], [(.tmp 0 false [(.dat .bool)])], dialtoneref23_branch⟩), (16, ⟨[(.tmp 0 true [(.dat (.list (.pair .str (.pair (.int .i64) (.pair (.int .u8) (.int .i64)))))), (.dat (.int .i64)), (.dat .bool), (.dat .bool), (.dat .bool)])], [(.tmp 0 false [(.dat .bool)])], dialtoneref23_Valid⟩), (18, ⟨[(.tmp 0 true [(.dat (.list (.pair .str (.pair (.int .i64) (.pair (.int .u8) (.int .i64)))))), (.dat (.int .i64)), (.dat .bool), (.dat .bool), (.dat .bool)])], [(.tmp 0 false [(.dat (.int .i64))])], dialtoneref23_Best⟩), (45, ⟨[(.tmp 0 true [(.dat (.list (.pair .str (.pair (.int .i64) (.pair (.int .u8) (.int .i64)))))), (.dat (.int .i64)), (.dat .bool), (.dat .bool), (.dat .bool)])], [(.tmp 0 true [(.dat (.list (.pair .str (.pair (.int .i64) (.pair (.int .u8) (.int .i64)))))), (.dat (.int .i64)), (.dat .bool), (.dat .bool), (.dat .bool)]), (.tmp 1 false [(.dat (.list (.pair (.int .u8) (.pair (.int .i64) (.int .i64)))))])], dialtoneref23_stop⟩), (56, ⟨[(.tmp 0 true [(.dat (.list (.pair .str (.pair (.int .i64) (.pair (.int .u8) (.int .i64)))))), (.dat (.int .i64)), (.dat .bool), (.dat .bool), (.dat .bool)])], [(.tmp 0 false [(.dat (.int .i64))])], dialtoneref23_first⟩), (57, ⟨[(.tmp 0 true [(.dat (.list (.pair .str (.pair (.int .i64) (.pair (.int .u8) (.int .i64)))))), (.dat (.int .i64)), (.dat .bool), (.dat .bool), (.dat .bool)])], [(.tmp 0 true [(.dat (.list (.pair .str (.pair (.int .i64) (.pair (.int .u8) (.int .i64)))))), (.dat (.int .i64)), (.dat .bool), (.dat .bool), (.dat .bool)])], dialtoneref23_skip⟩), (30, ⟨[(.tmp 0 true [(.dat (.list (.pair .str (.pair (.int .i64) (.pair (.int .u8) (.int .i64)))))), (.dat (.int .i64)), (.dat .bool), (.dat .bool), (.dat .bool)])], [(.tmp 0 true [(.dat (.list (.pair .str (.pair (.int .i64) (.pair (.int .u8) (.int .i64)))))), (.dat (.int .i64)), (.dat .bool), (.dat .bool), (.dat .bool)]), (.tmp 1 false [(.dat (.list (.pair (.int .u8) (.pair (.int .i64) (.int .i64)))))])], dialtoneref23_goOn⟩), (41, ⟨[(.tmp 0 true [(.dat (.list (.pair .str (.pair (.int .i64) (.pair (.int .u8) (.int .i64)))))), (.dat (.int .i64)), (.dat .bool), (.dat .bool), (.dat .bool)]), (.tmp 1 true [(.dat (.int .u8)), (.dat (.int .i64)), (.dat (.int .i64))])], [(.tmp 0 false [(.dat (.int .u8))])], dialtoneref23_wrong⟩), (13, ⟨[(.tmp 0 true [(.dat (.list (.pair .str (.pair (.int .i64) (.pair (.int .u8) (.int .i64)))))), (.dat (.int .i64)), (.dat .bool), (.dat .bool), (.dat .bool)]), (.tmp 1 true [(.dat (.list (.pair .str (.pair (.int .i64) (.pair (.int .u8) (.int .i64)))))), (.dat (.int .i64)), (.dat .bool), (.dat .bool), (.dat .bool)])], [(.tmp 0 false [(.dat .bool)])], dialtoneref23_Same⟩), (14, ⟨[(.tmp 0 false [(.dat (.list (.pair (.int .u8) (.pair (.int .i64) (.int .i64)))))]), (.tmp 1 false [(.dat (.list (.pair (.int .u8) (.pair (.int .i64) (.int .i64)))))])], [(.tmp 0 false [(.dat .bool)])], dialtoneref23_SameActs⟩), (12, ⟨[(.tmp 0 false [(.dat (.list (.pair .str (.int .i64))))])], [(.tmp 0 true [(.dat (.list (.pair .str (.pair (.int .i64) (.pair (.int .u8) (.int .i64)))))), (.dat (.int .i64)), (.dat .bool), (.dat .bool), (.dat .bool)]), (.tmp 1 false [(.dat (.list (.pair (.int .u8) (.pair (.int .i64) (.int .i64)))))]), (.tmp 2 false [(.dat (.int .u8))])], dialtoneref23_New⟩), (21, ⟨[(.tmp 0 true [(.dat (.list (.pair .str (.pair (.int .i64) (.pair (.int .u8) (.int .i64)))))), (.dat (.int .i64)), (.dat .bool), (.dat .bool), (.dat .bool)]), (.tmp 1 true [(.dat (.int .u8)), (.dat (.int .i64)), (.dat (.int .i64))])], [(.tmp 0 true [(.dat (.list (.pair .str (.pair (.int .i64) (.pair (.int .u8) (.int .i64)))))), (.dat (.int .i64)), (.dat .bool), (.dat .bool), (.dat .bool)]), (.tmp 1 false [(.dat (.list (.pair (.int .u8) (.pair (.int .i64) (.int .i64)))))]), (.tmp 2 false [(.dat (.int .u8))])], dialtoneref23_Step⟩), (37, ⟨[.tmp 0 false [.dat (.list (.pair .str (.pair (.int .i64) (.pair (.int .u8) (.int .i64)))))]], [.tmp 0 false [.own 1 49 (.pair .str (.pair (.int .i64) (.pair (.int .u8) (.int .i64))))]], cloneG⟩), (62, ⟨[], riB, (fun _ => none)⟩), (19, ⟨[], riB, (fun _ => some true)⟩), (10, ⟨[], riB, (fun _ => some true)⟩), (20, ⟨[(.tmp 0 true [(.dat (.list (.pair .str (.pair (.int .i64) (.pair (.int .u8) (.int .i64)))))), (.dat (.int .i64)), (.dat .bool), (.dat .bool), (.dat .bool)]), (.tmp 1 true [(.dat (.int .u8)), (.dat (.int .i64)), (.dat (.int .i64))])], [(.tmp 0 true [(.dat (.list (.pair .str (.pair (.int .i64) (.pair (.int .u8) (.int .i64)))))), (.dat (.int .i64)), (.dat .bool), (.dat .bool), (.dat .bool)]), (.tmp 1 false [(.dat (.list (.pair (.int .u8) (.pair (.int .i64) (.int .i64)))))]), (.tmp 2 false [(.dat (.int .u8))])], fork_Step⟩), (23, ⟨[(.tmp 0 false [(.dat (.list (.pair (.int .u8) (.pair (.int .i64) (.int .i64)))))]), (.tmp 1 false [(.dat (.int .u8))])], [(.tmp 0 false [(.dat (.int .i64))])], dialtonelaw23_all⟩), (25, ⟨[(.tmp 0 false [(.dat (.list (.pair (.int .u8) (.pair (.int .i64) (.int .i64)))))]), (.tmp 1 false [(.dat (.int .u8))]), (.tmp 2 false [(.dat (.int .i64))])], [(.tmp 0 false [(.dat (.int .i64))])], dialtonelaw23_count⟩)]
theorem cons22_ok : ConL Try.prog cons22 := ⟨con63, con50, con32, con34, con33, con31, con15, con17, con36, con46, con24, con60, con59, con35, con16, con18, con45, con56, con57, con30, con41, con13, con14, con12, con21, clone_con37, noSym, con_true (by kernel_rfl) live_o, con_true (by kernel_rfl) known_o, con20, con23, con25, trivial⟩
theorem con22 : ConOk Try.prog 22 ⟨[(.tmp 0 false [(.dat (.list (.pair .str (.int .i64))))]), (.tmp 1 false [(.dat (.list (.pair (.int .u8) (.pair (.int .i64) (.int .i64)))))])], [(.tmp 0 true [(.dat (.list (.pair .str (.pair (.int .i64) (.pair (.int .u8) (.int .i64)))))), (.dat (.int .i64)), (.dat .bool), (.dat .bool), (.dat .bool)]), (.tmp 1 false [(.dat (.list (.pair (.int .u8) (.pair (.int .i64) (.int .i64)))))]), (.tmp 2 false [(.dat (.list (.pair (.int .u8) (.pair (.int .i64) (.int .i64)))))]), (.tmp 3 false [(.dat .bool)])], dialtonelaw23_run⟩ :=
  tree_ok (plan := planOf plan22) (eg := egNo) KK tabL_ok (conOf_ok cons22_ok) Try.func22 (by kernel_rfl) (by kernel_rfl) 10000 (fun a r h => Eq.trans (show _ = dialtonelaw23_run a from by kernel_rfl) h)
end Go.Proofs.Ytheicchelhjcjaa
