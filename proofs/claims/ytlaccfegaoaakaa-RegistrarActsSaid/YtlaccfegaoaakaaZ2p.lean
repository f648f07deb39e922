import Derived.Test.YtlaccfegaoaakaaFp
import Derived.Test.YtlaccfegaoaakaaXBp
import Derived.Test.YtlaccfegaoaakaaZ1p
set_option linter.unusedVariables false
set_option maxRecDepth 1000000
set_option maxHeartbeats 0
namespace Go.Proofs.Ytlaccfegaoaakaa
open Go.RowKit
def plan22 : List (Nat × PL) := [(262657, (.carry [])), (9241421688590303250, (.carry [.mix 3 [(.own 10000002 5 (.int .u8))]])), (5857446875251837918749797529164281065012793182214, (.carry [.tmp 5 false [(.dat (.int .i64))], .mix 3 [(.own 10000036 5 (.int .u8))], .dead 10000035])), (43641380036263450374825280377002664395265, (.carry [.mix 3 [(.own 10000050 5 (.int .u8))], .dead 10000037])), (1240362622532514025046280198, (.carry [.tmp 5 false [(.dat (.int .i64))], .mix 3 [(.own 10000018 5 (.int .u8))]])), (1240362622532514091354554387, (.carry [.mix 3 [(.own 10000020 5 (.int .u8))], .dead 10000002])), (166478653092435647469592732275836934, (.carry [.tmp 5 false [(.dat (.int .i64))], .mix 3 [(.own 10000019 5 (.int .u8))], .dead 10000002])), (635065662736647214839706157075, (.carry [.mix 3 [(.own 10000022 5 (.int .u8))], .dead 22])), (85237070383327051513313244590217889798, (.carry [.tmp 5 false [(.dat (.int .i64))], .mix 3 [(.own 10000021 5 (.int .u8))], .dead 22])), (1240362622532514091484053523, (.carry [.mix 3 [(.own 10000024 5 (.int .u8))], .dead 34])), (166478653092435647486973812087719942, (.carry [.tmp 5 false [(.dat (.int .i64))], .mix 3 [(.own 10000023 5 (.int .u8))], .dead 34])), (1240362622532514091484054017, (.carry [.mix 3 [(.own 10000029 5 (.int .u8))], .dead 10000024])), (166478653092435647486973878257058833, (.carry [.mix 3 [(.own 10000027 5 (.int .u8))], .dead 10000024])), (166478653092435647486973878257059345, (.carry [.mix 3 [(.own 10000028 5 (.int .u8))], .dead 10000024])), (22344386578566886591910543535011036527855622, (.carry [.tmp 5 false [(.dat (.int .i64))], .mix 3 [(.own 10000025 5 (.int .u8))], .dead 10000024])), (22344386578566886591910543535011105247332358, (.carry [.tmp 5 false [(.dat (.int .i64))], .mix 3 [(.own 10000026 5 (.int .u8))], .dead 10000024])), (325153619321163373997995856232467, (.carry [.mix 3 [(.own 10000031 5 (.int .u8))], .dead 10000029])), (43641380036263450374825280376936360839174, (.carry [.tmp 5 false [(.dat (.int .i64))], .mix 3 [(.own 10000030 5 (.int .u8))], .dead 10000029])), (43641380036263450374825280377002534895635, (.carry [.mix 3 [(.own 10000033 5 (.int .u8))], .dead 10000031])), (5857446875251837918749797529164263683932847081478, (.carry [.tmp 5 false [(.dat (.int .i64))], .mix 3 [(.own 10000032 5 (.int .u8))], .dead 10000031])), (85237070383327051513330625736333328403, (.carry [.mix 3 [(.own 10000035 5 (.int .u8))], .dead 54])), (11440325928226245935058198299148986388928792582, (.carry [.tmp 5 false [(.dat (.int .i64))], .mix 3 [(.own 10000034 5 (.int .u8))], .dead 54])), (43641380036263450374825280377002664394772, (.carry [.mix 3 [(.own 10000037 5 (.int .u8))], .dead 10000035])), (5857446875251837918749797529164281065078828304390, (.carry [.tmp 67 false [(.dat (.int .i64))], .mix 3 [(.own 10000042 5 (.int .u8))], .dead 10000037])), (14162437529025953452002322041180027868550309617466840484466301573794627603, (.carry [.mix 3 [(.own 10000039 5 (.int .u8))], .dead 10000042])), (1900850188087797525361508715091505779493505210552948445163486289797539255481010182, (.carry [.tmp 5 false [(.dat (.int .i64))], .mix 3 [(.own 10000038 5 (.int .u8))], .dead 10000042])), (27661010798878815335942035236679741930762323471614922821223245261570067, (.carry [.mix 3 [(.own 10000041 5 (.int .u8))], .dead 84])), (3712598023608979541721696709163097225573252364361227431959934159794700105811974, (.carry [.tmp 5 false [(.dat (.int .i64))], .mix 3 [(.own 10000040 5 (.int .u8))], .dead 84])), (27661010798878815335942035236679741930762323471614922821223245261570579, (.carry [.mix 3 [(.own 10000048 5 (.int .u8))], .dead 10000041])), (3712598023608979541721696709163097225573252364361227431959934159794768825288710, (.carry [.tmp 5 false [(.dat (.int .i64))], .mix 3 [(.own 10000046 5 (.int .u8))], .dead 10000041])), (11440325928226245935058198299148986455232348180, (.carry [.mix 3 [(.own 10000052 5 (.int .u8))], .dead 10000050])), (1535494553666017799372746923485241295524059484824799238, (.carry [.tmp 5 false [(.dat (.int .i64))], .mix 3 [(.own 10000051 5 (.int .u8))], .dead 10000050])), (11440325928226245935058198299148986455232348673, (.carry [.mix 3 [(.own 10000059 5 (.int .u8))], .dead 10000052])), (1535494553666017799372746923485241295524059550859921414, (.carry [.tmp 92 false [(.dat (.int .i64))], .mix 3 [(.own 10000053 5 (.int .u8))], .dead 10000052])), (7251168014861288167425188885084174268697924675101011819053893073350177587219, (.carry [.mix 3 [(.own 10000057 5 (.int .u8))], .dead 10000053])), (973235296300952332985092462126850959100696968207195976854560637859998184153056282630, (.carry [.tmp 5 false [(.dat (.int .i64))], .mix 3 [(.own 10000055 5 (.int .u8))], .dead 10000053]))]
noncomputable def registrar_EncodeAct : (Int × ((List UInt8) × ((List UInt8) × (Int × (Bool × ((List ((List UInt8) × (Int × Int))) × (Int × ((List UInt8) × (Int × (List (List UInt8))))))))))) → Option ((List Int) × Int) := fun (a1, (a2, (a3, (a4, (a5, (a6, (a7, (a8, (a9, a10))))))))) =>
 joinO (bindO (registrar_Formed (a2, (a3, (a4, (a5, (a6, (a7, (a8, (a9, a10))))))))) fun x11 =>
 bif (!x11) then
 outO (some (([] : List Int), (2 : Int)))
 else
 bif (decide (a1 < (0 : Int))) then
 outO (some (([] : List Int), (2 : Int)))
 else
 bif (decide (a1 > (1099511627776 : Int))) then
 outO (some (([] : List Int), (2 : Int)))
 else
 some (Sum.inl ())) fun _ =>
 joinO (loopO (fun (v12, v13) =>
 bif (decide (v12 ≥ (0 : Int))) then
 bindO (some (Go.IntKind.wrap .i64 ((8 : Int) * v12))) fun x15 =>
 bif (decide ((0 : Int) ≤ x15)) then 
 bindO (some (Int.fdiv (Go.IntKind.wrap .u64 a1) ((2 : Int) ^ (Min.min (Int.toNat x15) 64)))) fun x16 =>
 bif (decide ((List.length v13) ≤ (List.length v13))) then 
 bif (decide (((List.length ((List.take (List.length v13) v13) ++ ((Go.IntKind.wrap .u8 x16) :: ([] : List Int)))) * 1) ≤ 140737488355328)) then 
 bindO (some ((List.take (List.length v13) v13) ++ ((Go.IntKind.wrap .u8 x16) :: ([] : List Int)))) fun x18 =>
 bif (decide ((List.length x18) ≤ (List.length x18))) then 
 some (Sum.inl ((Go.IntKind.wrap .i64 (v12 - (1 : Int))), (List.take (List.length x18) x18)))
 else none
 else none
 else none
 else none
 else
 outO (bif (decide ((List.length v13) ≤ (List.length v13))) then 
 some (Sum.inl (List.take (List.length v13) v13))
 else none)) ((7 : Int), ([] : List Int))) fun v20 =>
 joinO (bif (decide ((List.length v20) ≤ (List.length v20))) then 
 loopO (fun (v21, v22) =>
 bif (decide (v21 ≥ (0 : Int))) then
 bindO (some (Go.IntKind.wrap .i64 ((8 : Int) * v21))) fun x24 =>
 bif (decide ((0 : Int) ≤ x24)) then 
 bindO (some (Int.fdiv (Go.IntKind.wrap .u64 (((List.length a2) : Nat) : Int)) ((2 : Int) ^ (Min.min (Int.toNat x24) 64)))) fun x25 =>
 bif (decide ((List.length v22) ≤ (List.length v22))) then 
 bif (decide (((List.length ((List.take (List.length v22) v22) ++ ((Go.IntKind.wrap .u8 x25) :: ([] : List Int)))) * 1) ≤ 140737488355328)) then 
 bindO (some ((List.take (List.length v22) v22) ++ ((Go.IntKind.wrap .u8 x25) :: ([] : List Int)))) fun x27 =>
 bif (decide ((List.length x27) ≤ (List.length x27))) then 
 some (Sum.inl ((Go.IntKind.wrap .i64 (v21 - (1 : Int))), (List.take (List.length x27) x27)))
 else none
 else none
 else none
 else none
 else
 outO (bif (decide ((List.length v22) ≤ (List.length v22))) then 
 some (Sum.inl (List.take (List.length v22) v22))
 else none)) ((1 : Int), (List.take (List.length v20) v20))
 else none) fun v29 =>
 bif (decide ((List.length v29) ≤ (List.length v29))) then 
 bif (decide (((List.length ((List.take (List.length v29) v29) ++ (List.map (fun (x30 : UInt8) => (((UInt8.toNat x30) : Nat) : Int)) a2))) * 1) ≤ 140737488355328)) then 
 bindO (some ((List.take (List.length v29) v29) ++ (List.map (fun (x32 : UInt8) => (((UInt8.toNat x32) : Nat) : Int)) a2))) fun x31 =>
 joinO (bif (decide ((List.length x31) ≤ (List.length x31))) then 
 loopO (fun (v33, v34) =>
 bif (decide (v33 ≥ (0 : Int))) then
 bindO (some (Go.IntKind.wrap .i64 ((8 : Int) * v33))) fun x36 =>
 bif (decide ((0 : Int) ≤ x36)) then 
 bindO (some (Int.fdiv (Go.IntKind.wrap .u64 (((List.length a3) : Nat) : Int)) ((2 : Int) ^ (Min.min (Int.toNat x36) 64)))) fun x37 =>
 bif (decide ((List.length v34) ≤ (List.length v34))) then 
 bif (decide (((List.length ((List.take (List.length v34) v34) ++ ((Go.IntKind.wrap .u8 x37) :: ([] : List Int)))) * 1) ≤ 140737488355328)) then 
 bindO (some ((List.take (List.length v34) v34) ++ ((Go.IntKind.wrap .u8 x37) :: ([] : List Int)))) fun x39 =>
 bif (decide ((List.length x39) ≤ (List.length x39))) then 
 some (Sum.inl ((Go.IntKind.wrap .i64 (v33 - (1 : Int))), (List.take (List.length x39) x39)))
 else none
 else none
 else none
 else none
 else
 outO (bif (decide ((List.length v34) ≤ (List.length v34))) then 
 some (Sum.inl (List.take (List.length v34) v34))
 else none)) ((1 : Int), (List.take (List.length x31) x31))
 else none) fun v41 =>
 bif (decide ((List.length v41) ≤ (List.length v41))) then 
 bif (decide (((List.length ((List.take (List.length v41) v41) ++ (List.map (fun (x42 : UInt8) => (((UInt8.toNat x42) : Nat) : Int)) a3))) * 1) ≤ 140737488355328)) then 
 bindO (some ((List.take (List.length v41) v41) ++ (List.map (fun (x44 : UInt8) => (((UInt8.toNat x44) : Nat) : Int)) a3))) fun x43 =>
 joinO (bif (decide ((List.length x43) ≤ (List.length x43))) then 
 loopO (fun (v45, v46) =>
 bif (decide (v45 ≥ (0 : Int))) then
 bindO (some (Go.IntKind.wrap .i64 ((8 : Int) * v45))) fun x48 =>
 bif (decide ((0 : Int) ≤ x48)) then 
 bindO (some (Int.fdiv (Go.IntKind.wrap .u64 a4) ((2 : Int) ^ (Min.min (Int.toNat x48) 64)))) fun x49 =>
 bif (decide ((List.length v46) ≤ (List.length v46))) then 
 bif (decide (((List.length ((List.take (List.length v46) v46) ++ ((Go.IntKind.wrap .u8 x49) :: ([] : List Int)))) * 1) ≤ 140737488355328)) then 
 bindO (some ((List.take (List.length v46) v46) ++ ((Go.IntKind.wrap .u8 x49) :: ([] : List Int)))) fun x51 =>
 bif (decide ((List.length x51) ≤ (List.length x51))) then 
 some (Sum.inl ((Go.IntKind.wrap .i64 (v45 - (1 : Int))), (List.take (List.length x51) x51)))
 else none
 else none
 else none
 else none
 else
 outO (bif (decide ((List.length v46) ≤ (List.length v46))) then 
 some (Sum.inl (List.take (List.length v46) v46))
 else none)) ((3 : Int), (List.take (List.length x43) x43))
 else none) fun v53 =>
 joinO (bif a5 then
 joinO (bif (decide ((List.length v53) ≤ (List.length v53))) then 
 loopO (fun (v54, v55) =>
 bif (decide (v54 ≥ (0 : Int))) then
 bindO (some (Go.IntKind.wrap .i64 ((8 : Int) * v54))) fun x56 =>
 bif (decide ((0 : Int) ≤ x56)) then 
 bindO (some (Int.fdiv (1 : Int) ((2 : Int) ^ (Min.min (Int.toNat x56) 64)))) fun x57 =>
 bif (decide ((List.length v55) ≤ (List.length v55))) then 
 bif (decide (((List.length ((List.take (List.length v55) v55) ++ ((Go.IntKind.wrap .u8 x57) :: ([] : List Int)))) * 1) ≤ 140737488355328)) then 
 bindO (some ((List.take (List.length v55) v55) ++ ((Go.IntKind.wrap .u8 x57) :: ([] : List Int)))) fun x59 =>
 bif (decide ((List.length x59) ≤ (List.length x59))) then 
 some (Sum.inl ((Go.IntKind.wrap .i64 (v54 - (1 : Int))), (List.take (List.length x59) x59)))
 else none
 else none
 else none
 else none
 else
 outO (bif (decide ((List.length v55) ≤ (List.length v55))) then 
 some (Sum.inl (List.take (List.length v55) v55))
 else none)) ((0 : Int), (List.take (List.length v53) v53))
 else none) fun v61 =>
 bif (decide ((List.length v61) ≤ (List.length v61))) then 
 some (Sum.inl (List.take (List.length v61) v61))
 else none
 else
 joinO (bif (decide ((List.length v53) ≤ (List.length v53))) then 
 loopO (fun (v62, v63) =>
 bif (decide (v62 ≥ (0 : Int))) then
 bindO (some (Go.IntKind.wrap .i64 ((8 : Int) * v62))) fun x64 =>
 bif (decide ((0 : Int) ≤ x64)) then 
 bindO (some (Int.fdiv (0 : Int) ((2 : Int) ^ (Min.min (Int.toNat x64) 64)))) fun x65 =>
 bif (decide ((List.length v63) ≤ (List.length v63))) then 
 bif (decide (((List.length ((List.take (List.length v63) v63) ++ ((Go.IntKind.wrap .u8 x65) :: ([] : List Int)))) * 1) ≤ 140737488355328)) then 
 bindO (some ((List.take (List.length v63) v63) ++ ((Go.IntKind.wrap .u8 x65) :: ([] : List Int)))) fun x67 =>
 bif (decide ((List.length x67) ≤ (List.length x67))) then 
 some (Sum.inl ((Go.IntKind.wrap .i64 (v62 - (1 : Int))), (List.take (List.length x67) x67)))
 else none
 else none
 else none
 else none
 else
 outO (bif (decide ((List.length v63) ≤ (List.length v63))) then 
 some (Sum.inl (List.take (List.length v63) v63))
 else none)) ((0 : Int), (List.take (List.length v53) v53))
 else none) fun v69 =>
 bif (decide ((List.length v69) ≤ (List.length v69))) then 
 some (Sum.inl (List.take (List.length v69) v69))
 else none) fun v70 =>
 joinO (bif (decide ((List.length v70) ≤ (List.length v70))) then 
 loopO (fun (v71, v72) =>
 bif (decide (v71 ≥ (0 : Int))) then
 bindO (some (Go.IntKind.wrap .i64 ((8 : Int) * v71))) fun x74 =>
 bif (decide ((0 : Int) ≤ x74)) then 
 bindO (some (Int.fdiv (Go.IntKind.wrap .u64 a7) ((2 : Int) ^ (Min.min (Int.toNat x74) 64)))) fun x75 =>
 bif (decide ((List.length v72) ≤ (List.length v72))) then 
 bif (decide (((List.length ((List.take (List.length v72) v72) ++ ((Go.IntKind.wrap .u8 x75) :: ([] : List Int)))) * 1) ≤ 140737488355328)) then 
 bindO (some ((List.take (List.length v72) v72) ++ ((Go.IntKind.wrap .u8 x75) :: ([] : List Int)))) fun x77 =>
 bif (decide ((List.length x77) ≤ (List.length x77))) then 
 some (Sum.inl ((Go.IntKind.wrap .i64 (v71 - (1 : Int))), (List.take (List.length x77) x77)))
 else none
 else none
 else none
 else none
 else
 outO (bif (decide ((List.length v72) ≤ (List.length v72))) then 
 some (Sum.inl (List.take (List.length v72) v72))
 else none)) ((3 : Int), (List.take (List.length v70) v70))
 else none) fun v79 =>
 joinO (bif (decide ((List.length v79) ≤ (List.length v79))) then 
 loopO (fun (v80, v81) =>
 bif (decide (v80 ≥ (0 : Int))) then
 bindO (some (Go.IntKind.wrap .i64 ((8 : Int) * v80))) fun x83 =>
 bif (decide ((0 : Int) ≤ x83)) then 
 bindO (some (Int.fdiv (Go.IntKind.wrap .u64 (((List.length a8) : Nat) : Int)) ((2 : Int) ^ (Min.min (Int.toNat x83) 64)))) fun x84 =>
 bif (decide ((List.length v81) ≤ (List.length v81))) then 
 bif (decide (((List.length ((List.take (List.length v81) v81) ++ ((Go.IntKind.wrap .u8 x84) :: ([] : List Int)))) * 1) ≤ 140737488355328)) then 
 bindO (some ((List.take (List.length v81) v81) ++ ((Go.IntKind.wrap .u8 x84) :: ([] : List Int)))) fun x86 =>
 bif (decide ((List.length x86) ≤ (List.length x86))) then 
 some (Sum.inl ((Go.IntKind.wrap .i64 (v80 - (1 : Int))), (List.take (List.length x86) x86)))
 else none
 else none
 else none
 else none
 else
 outO (bif (decide ((List.length v81) ≤ (List.length v81))) then 
 some (Sum.inl (List.take (List.length v81) v81))
 else none)) ((1 : Int), (List.take (List.length v79) v79))
 else none) fun v88 =>
 bif (decide ((List.length v88) ≤ (List.length v88))) then 
 bif (decide (((List.length ((List.take (List.length v88) v88) ++ (List.map (fun (x89 : UInt8) => (((UInt8.toNat x89) : Nat) : Int)) a8))) * 1) ≤ 140737488355328)) then 
 bindO (some ((List.take (List.length v88) v88) ++ (List.map (fun (x91 : UInt8) => (((UInt8.toNat x91) : Nat) : Int)) a8))) fun x90 =>
 joinO (bif (decide ((List.length x90) ≤ (List.length x90))) then 
 loopO (fun (v92, v93) =>
 bif (decide (v92 ≥ (0 : Int))) then
 bindO (some (Go.IntKind.wrap .i64 ((8 : Int) * v92))) fun x95 =>
 bif (decide ((0 : Int) ≤ x95)) then 
 bindO (some (Int.fdiv (Go.IntKind.wrap .u64 a9) ((2 : Int) ^ (Min.min (Int.toNat x95) 64)))) fun x96 =>
 bif (decide ((List.length v93) ≤ (List.length v93))) then 
 bif (decide (((List.length ((List.take (List.length v93) v93) ++ ((Go.IntKind.wrap .u8 x96) :: ([] : List Int)))) * 1) ≤ 140737488355328)) then 
 bindO (some ((List.take (List.length v93) v93) ++ ((Go.IntKind.wrap .u8 x96) :: ([] : List Int)))) fun x98 =>
 bif (decide ((List.length x98) ≤ (List.length x98))) then 
 some (Sum.inl ((Go.IntKind.wrap .i64 (v92 - (1 : Int))), (List.take (List.length x98) x98)))
 else none
 else none
 else none
 else none
 else
 outO (bif (decide ((List.length v93) ≤ (List.length v93))) then 
 some (Sum.inl (List.take (List.length v93) v93))
 else none)) ((3 : Int), (List.take (List.length x90) x90))
 else none) fun v100 =>
 joinO (bif (decide ((List.length v100) ≤ (List.length v100))) then 
 loopO (fun (v101, v102) =>
 bif (decide (v101 ≥ (0 : Int))) then
 bindO (some (Go.IntKind.wrap .i64 ((8 : Int) * v101))) fun x104 =>
 bif (decide ((0 : Int) ≤ x104)) then 
 bindO (some (Int.fdiv (Go.IntKind.wrap .u64 (((List.length a6) : Nat) : Int)) ((2 : Int) ^ (Min.min (Int.toNat x104) 64)))) fun x105 =>
 bif (decide ((List.length v102) ≤ (List.length v102))) then 
 bif (decide (((List.length ((List.take (List.length v102) v102) ++ ((Go.IntKind.wrap .u8 x105) :: ([] : List Int)))) * 1) ≤ 140737488355328)) then 
 bindO (some ((List.take (List.length v102) v102) ++ ((Go.IntKind.wrap .u8 x105) :: ([] : List Int)))) fun x107 =>
 bif (decide ((List.length x107) ≤ (List.length x107))) then 
 some (Sum.inl ((Go.IntKind.wrap .i64 (v101 - (1 : Int))), (List.take (List.length x107) x107)))
 else none
 else none
 else none
 else none
 else
 outO (bif (decide ((List.length v102) ≤ (List.length v102))) then 
 some (Sum.inl (List.take (List.length v102) v102))
 else none)) ((0 : Int), (List.take (List.length v100) v100))
 else none) fun v109 =>
 joinO (bif (decide ((List.length v109) ≤ (List.length v109))) then 
 loopO (fun (v110, v111) =>
 bif (decide (v110 < (((List.length a6) : Nat) : Int))) then
 bif (decide (((0 : Int) ≤ v110) ∧ (v110 < (((List.length a6) : Nat) : Int)))) then 
 bindO a6[(Int.toNat v110)]? fun x112 =>
 joinO (bif (decide ((List.length v111) ≤ (List.length v111))) then 
 loopO (fun (v113, v114) =>
 bif (decide (v113 ≥ (0 : Int))) then
 bindO (some (Go.IntKind.wrap .i64 ((8 : Int) * v113))) fun x116 =>
 bif (decide ((0 : Int) ≤ x116)) then 
 bindO (some (Int.fdiv (Go.IntKind.wrap .u64 (((List.length x112.1) : Nat) : Int)) ((2 : Int) ^ (Min.min (Int.toNat x116) 64)))) fun x117 =>
 bif (decide ((List.length v114) ≤ (List.length v114))) then 
 bif (decide (((List.length ((List.take (List.length v114) v114) ++ ((Go.IntKind.wrap .u8 x117) :: ([] : List Int)))) * 1) ≤ 140737488355328)) then 
 bindO (some ((List.take (List.length v114) v114) ++ ((Go.IntKind.wrap .u8 x117) :: ([] : List Int)))) fun x119 =>
 bif (decide ((List.length x119) ≤ (List.length x119))) then 
 some (Sum.inl ((Go.IntKind.wrap .i64 (v113 - (1 : Int))), (List.take (List.length x119) x119)))
 else none
 else none
 else none
 else none
 else
 outO (bif (decide ((List.length v114) ≤ (List.length v114))) then 
 some (Sum.inl (List.take (List.length v114) v114))
 else none)) ((1 : Int), (List.take (List.length v111) v111))
 else none) fun v121 =>
 bif (decide ((List.length v121) ≤ (List.length v121))) then 
 bif (decide (((List.length ((List.take (List.length v121) v121) ++ (List.map (fun (x122 : UInt8) => (((UInt8.toNat x122) : Nat) : Int)) x112.1))) * 1) ≤ 140737488355328)) then 
 bindO (some ((List.take (List.length v121) v121) ++ (List.map (fun (x124 : UInt8) => (((UInt8.toNat x124) : Nat) : Int)) x112.1))) fun x123 =>
 joinO (bif (decide ((List.length x123) ≤ (List.length x123))) then 
 loopO (fun (v125, v126) =>
 bif (decide (v125 ≥ (0 : Int))) then
 bindO (some (Go.IntKind.wrap .i64 ((8 : Int) * v125))) fun x128 =>
 bif (decide ((0 : Int) ≤ x128)) then 
 bindO (some (Int.fdiv (Go.IntKind.wrap .u64 x112.2.1) ((2 : Int) ^ (Min.min (Int.toNat x128) 64)))) fun x129 =>
 bif (decide ((List.length v126) ≤ (List.length v126))) then 
 bif (decide (((List.length ((List.take (List.length v126) v126) ++ ((Go.IntKind.wrap .u8 x129) :: ([] : List Int)))) * 1) ≤ 140737488355328)) then 
 bindO (some ((List.take (List.length v126) v126) ++ ((Go.IntKind.wrap .u8 x129) :: ([] : List Int)))) fun x131 =>
 bif (decide ((List.length x131) ≤ (List.length x131))) then 
 some (Sum.inl ((Go.IntKind.wrap .i64 (v125 - (1 : Int))), (List.take (List.length x131) x131)))
 else none
 else none
 else none
 else none
 else
 outO (bif (decide ((List.length v126) ≤ (List.length v126))) then 
 some (Sum.inl (List.take (List.length v126) v126))
 else none)) ((1 : Int), (List.take (List.length x123) x123))
 else none) fun v133 =>
 joinO (bif (decide ((List.length v133) ≤ (List.length v133))) then 
 loopO (fun (v134, v135) =>
 bif (decide (v134 ≥ (0 : Int))) then
 bindO (some (Go.IntKind.wrap .i64 ((8 : Int) * v134))) fun x137 =>
 bif (decide ((0 : Int) ≤ x137)) then 
 bindO (some (Int.fdiv (Go.IntKind.wrap .u64 x112.2.2) ((2 : Int) ^ (Min.min (Int.toNat x137) 64)))) fun x138 =>
 bif (decide ((List.length v135) ≤ (List.length v135))) then 
 bif (decide (((List.length ((List.take (List.length v135) v135) ++ ((Go.IntKind.wrap .u8 x138) :: ([] : List Int)))) * 1) ≤ 140737488355328)) then 
 bindO (some ((List.take (List.length v135) v135) ++ ((Go.IntKind.wrap .u8 x138) :: ([] : List Int)))) fun x140 =>
 bif (decide ((List.length x140) ≤ (List.length x140))) then 
 some (Sum.inl ((Go.IntKind.wrap .i64 (v134 - (1 : Int))), (List.take (List.length x140) x140)))
 else none
 else none
 else none
 else none
 else
 outO (bif (decide ((List.length v135) ≤ (List.length v135))) then 
 some (Sum.inl (List.take (List.length v135) v135))
 else none)) ((3 : Int), (List.take (List.length v133) v133))
 else none) fun v142 =>
 bif (decide ((List.length v142) ≤ (List.length v142))) then 
 some (Sum.inl ((Go.IntKind.wrap .i64 (v110 + (1 : Int))), (List.take (List.length v142) v142)))
 else none
 else none
 else none
 else none
 else
 outO (bif (decide ((List.length v111) ≤ (List.length v111))) then 
 some (Sum.inl (List.take (List.length v111) v111))
 else none)) ((0 : Int), (List.take (List.length v109) v109))
 else none) fun v144 =>
 joinO (bif (decide ((List.length v144) ≤ (List.length v144))) then 
 loopO (fun (v145, v146) =>
 bif (decide (v145 ≥ (0 : Int))) then
 bindO (some (Go.IntKind.wrap .i64 ((8 : Int) * v145))) fun x148 =>
 bif (decide ((0 : Int) ≤ x148)) then 
 bindO (some (Int.fdiv (Go.IntKind.wrap .u64 (((List.length a10) : Nat) : Int)) ((2 : Int) ^ (Min.min (Int.toNat x148) 64)))) fun x149 =>
 bif (decide ((List.length v146) ≤ (List.length v146))) then 
 bif (decide (((List.length ((List.take (List.length v146) v146) ++ ((Go.IntKind.wrap .u8 x149) :: ([] : List Int)))) * 1) ≤ 140737488355328)) then 
 bindO (some ((List.take (List.length v146) v146) ++ ((Go.IntKind.wrap .u8 x149) :: ([] : List Int)))) fun x151 =>
 bif (decide ((List.length x151) ≤ (List.length x151))) then 
 some (Sum.inl ((Go.IntKind.wrap .i64 (v145 - (1 : Int))), (List.take (List.length x151) x151)))
 else none
 else none
 else none
 else none
 else
 outO (bif (decide ((List.length v146) ≤ (List.length v146))) then 
 some (Sum.inl (List.take (List.length v146) v146))
 else none)) ((0 : Int), (List.take (List.length v144) v144))
 else none) fun v153 =>
 joinO (bif (decide ((List.length v153) ≤ (List.length v153))) then 
 loopO (fun (v154, v155) =>
 bif (decide (v154 < (((List.length a10) : Nat) : Int))) then
 bif (decide (((0 : Int) ≤ v154) ∧ (v154 < (((List.length a10) : Nat) : Int)))) then 
 bindO a10[(Int.toNat v154)]? fun x156 =>
 joinO (bif (decide ((List.length v155) ≤ (List.length v155))) then 
 loopO (fun (v157, v158) =>
 bif (decide (v157 ≥ (0 : Int))) then
 bindO (some (Go.IntKind.wrap .i64 ((8 : Int) * v157))) fun x160 =>
 bif (decide ((0 : Int) ≤ x160)) then 
 bindO (some (Int.fdiv (Go.IntKind.wrap .u64 (((List.length x156) : Nat) : Int)) ((2 : Int) ^ (Min.min (Int.toNat x160) 64)))) fun x161 =>
 bif (decide ((List.length v158) ≤ (List.length v158))) then 
 bif (decide (((List.length ((List.take (List.length v158) v158) ++ ((Go.IntKind.wrap .u8 x161) :: ([] : List Int)))) * 1) ≤ 140737488355328)) then 
 bindO (some ((List.take (List.length v158) v158) ++ ((Go.IntKind.wrap .u8 x161) :: ([] : List Int)))) fun x163 =>
 bif (decide ((List.length x163) ≤ (List.length x163))) then 
 some (Sum.inl ((Go.IntKind.wrap .i64 (v157 - (1 : Int))), (List.take (List.length x163) x163)))
 else none
 else none
 else none
 else none
 else
 outO (bif (decide ((List.length v158) ≤ (List.length v158))) then 
 some (Sum.inl (List.take (List.length v158) v158))
 else none)) ((1 : Int), (List.take (List.length v155) v155))
 else none) fun v165 =>
 bif (decide ((List.length v165) ≤ (List.length v165))) then 
 bif (decide (((List.length ((List.take (List.length v165) v165) ++ (List.map (fun (x166 : UInt8) => (((UInt8.toNat x166) : Nat) : Int)) x156))) * 1) ≤ 140737488355328)) then 
 bindO (some ((List.take (List.length v165) v165) ++ (List.map (fun (x168 : UInt8) => (((UInt8.toNat x168) : Nat) : Int)) x156))) fun x167 =>
 bif (decide ((List.length x167) ≤ (List.length x167))) then 
 some (Sum.inl ((Go.IntKind.wrap .i64 (v154 + (1 : Int))), (List.take (List.length x167) x167)))
 else none
 else none
 else none
 else none
 else
 outO (bif (decide ((List.length v155) ≤ (List.length v155))) then 
 some (Sum.inl (List.take (List.length v155) v155))
 else none)) ((0 : Int), (List.take (List.length v153) v153))
 else none) fun v170 =>
 bif (decide ((((List.length v170) : Nat) : Int) > (4096 : Int))) then
 some (([] : List Int), (4 : Int))
 else
 bif (decide ((List.length v170) ≤ (List.length v170))) then 
 some ((List.take (List.length v170) v170), (0 : Int))
 else none
 else none
 else none
 else none
 else none
 else none
 else none
noncomputable def cons22 : List (Nat × CE) := [(9, ⟨[], riB, (fun _ => some true)⟩), (34, ⟨[(.tmp 0 false [(.dat (.int .i64))]), (.tmp 1 false [(.dat (.int .i64))]), (.tmp 2 false [(.dat (.int .i64))])], [(.tmp 0 false [(.dat .bool)])], registrar_within⟩), (10, ⟨[(.tmp 0 true [(.dat (.int .i64)), (.dat (.int .i64)), (.dat (.int .i64)), (.dat (.int .i64))])], [(.tmp 0 false [(.dat .bool)])], registrar_Valid⟩), (12, ⟨[(.tmp 0 true [(.dat .str), (.dat .str), (.dat (.int .i64)), (.dat .bool), (.dat (.list (.pair .str (.pair (.int .i64) (.int .i64))))), (.dat (.int .i64)), (.dat .str), (.dat (.int .i64)), (.dat (.list .str))])], [(.tmp 0 false [(.dat .bool)])], registrar_Formed⟩), (33, ⟨[(.tmp 0 false [(.dat (.int .i64))]), (.tmp 1 false [(.dat (.int .i64))]), (.tmp 2 false [(.dat (.int .i64))])], [(.tmp 0 false [(.dat .bool)])], dialtoneref22_within⟩), (11, ⟨[(.tmp 0 true [(.dat (.int .i64)), (.dat (.int .i64)), (.dat (.int .i64)), (.dat (.int .i64))])], [(.tmp 0 false [(.dat .bool)])], dialtoneref22_Valid⟩), (39, ⟨[(.tmp 0 true [(.dat .str), (.dat .str), (.dat (.int .i64)), (.dat .bool), (.dat (.list (.pair .str (.pair (.int .i64) (.int .i64))))), (.dat (.int .i64)), (.dat .str), (.dat (.int .i64)), (.dat (.list .str))])], [(.tmp 0 false [(.dat .bool)])], dialtoneref22_contacts⟩), (13, ⟨[(.tmp 0 true [(.dat .str), (.dat .str), (.dat (.int .i64)), (.dat .bool), (.dat (.list (.pair .str (.pair (.int .i64) (.int .i64))))), (.dat (.int .i64)), (.dat .str), (.dat (.int .i64)), (.dat (.list .str))])], [(.tmp 0 false [(.dat .bool)])], dialtoneref22_Formed⟩), (8, ⟨[(.tmp 0 true [(.dat .str), (.dat .str), (.dat (.int .i64)), (.dat .bool), (.dat (.list (.pair .str (.pair (.int .i64) (.int .i64))))), (.dat (.int .i64)), (.dat .str), (.dat (.int .i64)), (.dat (.list .str))])], [(.tmp 0 false [(.dat .bool)])], dialtonelaw22_few⟩), (3, ⟨[(.tmp 0 true [(.dat (.int .i64)), (.dat (.int .i64)), (.dat (.int .i64)), (.dat (.int .i64))]), (.tmp 1 true [(.dat .str), (.dat .str), (.dat (.int .i64)), (.dat .bool), (.dat (.list (.pair .str (.pair (.int .i64) (.int .i64))))), (.dat (.int .i64)), (.dat .str), (.dat (.int .i64)), (.dat (.list .str))])], [(.tmp 0 false [(.dat .bool)])], dialtonelaw22_RegistrarForms⟩)]
theorem cons22_ok : ConL Try.prog cons22 := ⟨con_true (by kernel_rfl) lives_o, con34, con10, con12, con33, con11, con39, con13, con8, con3, trivial⟩
theorem con22 : ConOk Try.prog 22 ⟨[(.tmp 0 false [(.dat (.int .i64))]), (.tmp 1 true [(.dat .str), (.dat .str), (.dat (.int .i64)), (.dat .bool), (.dat (.list (.pair .str (.pair (.int .i64) (.int .i64))))), (.dat (.int .i64)), (.dat .str), (.dat (.int .i64)), (.dat (.list .str))])], [(.tmp 0 false [(.dat (.list (.int .u8)))]), (.tmp 1 false [(.dat (.int .u8))])], registrar_EncodeAct⟩ :=
  tree_ok (plan := planOf plan22) (eg := egNo) KK tabL_ok (conOf_ok cons22_ok) Try.func22 (by kernel_rfl) (by kernel_rfl) 10000 (fun a r h => Eq.trans (show _ = registrar_EncodeAct a from by kernel_rfl) h)
def plan60 : List (Nat × PL) := []
noncomputable def registrar_signed : Int → Option Int := fun a1 =>
 bif (decide (a1 = (4294967295 : Int))) then
 some (-1 : Int)
 else
 some (Go.IntKind.wrap .i64 a1)
noncomputable def cons60 : List (Nat × CE) := [(9, ⟨[], riB, (fun _ => some true)⟩), (34, ⟨[(.tmp 0 false [(.dat (.int .i64))]), (.tmp 1 false [(.dat (.int .i64))]), (.tmp 2 false [(.dat (.int .i64))])], [(.tmp 0 false [(.dat .bool)])], registrar_within⟩), (10, ⟨[(.tmp 0 true [(.dat (.int .i64)), (.dat (.int .i64)), (.dat (.int .i64)), (.dat (.int .i64))])], [(.tmp 0 false [(.dat .bool)])], registrar_Valid⟩), (12, ⟨[(.tmp 0 true [(.dat .str), (.dat .str), (.dat (.int .i64)), (.dat .bool), (.dat (.list (.pair .str (.pair (.int .i64) (.int .i64))))), (.dat (.int .i64)), (.dat .str), (.dat (.int .i64)), (.dat (.list .str))])], [(.tmp 0 false [(.dat .bool)])], registrar_Formed⟩), (33, ⟨[(.tmp 0 false [(.dat (.int .i64))]), (.tmp 1 false [(.dat (.int .i64))]), (.tmp 2 false [(.dat (.int .i64))])], [(.tmp 0 false [(.dat .bool)])], dialtoneref22_within⟩), (11, ⟨[(.tmp 0 true [(.dat (.int .i64)), (.dat (.int .i64)), (.dat (.int .i64)), (.dat (.int .i64))])], [(.tmp 0 false [(.dat .bool)])], dialtoneref22_Valid⟩), (39, ⟨[(.tmp 0 true [(.dat .str), (.dat .str), (.dat (.int .i64)), (.dat .bool), (.dat (.list (.pair .str (.pair (.int .i64) (.int .i64))))), (.dat (.int .i64)), (.dat .str), (.dat (.int .i64)), (.dat (.list .str))])], [(.tmp 0 false [(.dat .bool)])], dialtoneref22_contacts⟩), (13, ⟨[(.tmp 0 true [(.dat .str), (.dat .str), (.dat (.int .i64)), (.dat .bool), (.dat (.list (.pair .str (.pair (.int .i64) (.int .i64))))), (.dat (.int .i64)), (.dat .str), (.dat (.int .i64)), (.dat (.list .str))])], [(.tmp 0 false [(.dat .bool)])], dialtoneref22_Formed⟩), (8, ⟨[(.tmp 0 true [(.dat .str), (.dat .str), (.dat (.int .i64)), (.dat .bool), (.dat (.list (.pair .str (.pair (.int .i64) (.int .i64))))), (.dat (.int .i64)), (.dat .str), (.dat (.int .i64)), (.dat (.list .str))])], [(.tmp 0 false [(.dat .bool)])], dialtonelaw22_few⟩), (3, ⟨[(.tmp 0 true [(.dat (.int .i64)), (.dat (.int .i64)), (.dat (.int .i64)), (.dat (.int .i64))]), (.tmp 1 true [(.dat .str), (.dat .str), (.dat (.int .i64)), (.dat .bool), (.dat (.list (.pair .str (.pair (.int .i64) (.int .i64))))), (.dat (.int .i64)), (.dat .str), (.dat (.int .i64)), (.dat (.list .str))])], [(.tmp 0 false [(.dat .bool)])], dialtonelaw22_RegistrarForms⟩), (22, ⟨[(.tmp 0 false [(.dat (.int .i64))]), (.tmp 1 true [(.dat .str), (.dat .str), (.dat (.int .i64)), (.dat .bool), (.dat (.list (.pair .str (.pair (.int .i64) (.int .i64))))), (.dat (.int .i64)), (.dat .str), (.dat (.int .i64)), (.dat (.list .str))])], [(.tmp 0 false [(.dat (.list (.int .u8)))]), (.tmp 1 false [(.dat (.int .u8))])], registrar_EncodeAct⟩)]
theorem cons60_ok : ConL Try.prog cons60 := ⟨con_true (by kernel_rfl) lives_o, con34, con10, con12, con33, con11, con39, con13, con8, con3, con22, trivial⟩
theorem con60 : ConOk Try.prog 60 ⟨[(.tmp 0 false [(.dat (.int .u64))])], [(.tmp 0 false [(.dat (.int .i64))])], registrar_signed⟩ :=
  tree_ok (plan := planOf plan60) (eg := egNo) KK tabL_ok (conOf_ok cons60_ok) Try.func60 (by kernel_rfl) (by kernel_rfl) 10000 (fun a r h => Eq.trans (show _ = registrar_signed a from by kernel_rfl) h)
def plan24 : List (Nat × PL) := [(4731607904558235516945, (.carry [.tmp 0 false [(.dat (.int .u64))], .mix 4 [(.dat (.list (.int .u8)))], .mix 6 [(.dat (.int .u8))]])), (635065662736647214773263663617, (.carry [.tmp 4 false [(.dat (.int .u64))], .mix 4 [(.dat (.list (.int .u8)))], .mix 6 [(.dat (.int .u8))]])), (325153619321163373997929284239378, (.carry [.tmp 0 false [(.dat (.int .u64))], .mix 4 [(.dat (.list (.int .u8)))], .mix 6 [(.dat (.int .u8))]])), (166478653092435647469522429834952722, (.carry [.tmp 0 false [(.dat (.list (.int .u8)))], .mix 4 [(.dat (.list (.int .u8)))], .mix 6 [(.dat (.int .u8))]])), (43641380036263450374816345235275523555841, (.carry [.tmp 4 false [(.dat (.int .u64))], .mix 4 [(.dat (.list (.int .u8)))], .mix 6 [(.dat (.int .u8))]])), (11440325928226245935055856005356066847022120978, (.carry [.tmp 0 false [(.dat (.list (.int .u8)))], .mix 4 [(.dat (.list (.int .u8)))], .mix 6 [(.dat (.int .u8))]])), (85237070383327051504395484075496048646, (.carry [.tmp 11 false [(.dat (.int .i64))], .tmp 4 false [(.dat (.int .u64))]])), (325153619321163373997929284239380, (.carry [.tmp 0 false [(.dat (.list (.int .u8)))], .mix 4 [(.dat (.list (.int .u8)))], .mix 6 [(.dat (.int .u8))]])), (5857446875251837918748598274742306225675326195718, (.carry [.tmp 11 false [(.dat (.int .i64))], .tmp 4 false [(.dat (.int .u64))]])), (325153619321163373997929552674834, (.carry [.tmp 0 false [(.dat (.int .u64))], .mix 4 [(.dat (.list (.int .u8)))], .mix 6 [(.dat (.int .u8))]])), (43641380036263450374816381264072542519809, (.carry [.tmp 4 false [(.dat (.int .u64))], .mix 4 [(.dat (.list (.int .u8)))], .mix 6 [(.dat (.int .u8))]])), (11440325928226245935055865450089032586312548370, (.carry [.tmp 0 false [(.dat (.list (.int .u8)))], .mix 4 [(.dat (.list (.int .u8)))], .mix 6 [(.dat (.int .u8))]])), (325153619321163373997929552674836, (.carry [.tmp 0 false [(.dat (.list (.int .u8)))], .mix 4 [(.dat (.list (.int .u8)))], .mix 6 [(.dat (.int .u8))]])), (5857446875251837918748603110445584684192025020422, (.carry [.tmp 11 false [(.dat (.int .i64))], .tmp 4 false [(.dat (.int .u64))]])), (1240362622532514091484053521, (.carry [.tmp 0 false [(.dat (.int .u64))], .mix 4 [(.dat (.list (.int .u8)))], .mix 6 [(.dat (.int .u8))]])), (166478653092435647486973811819282945, (.carry [.tmp 4 false [(.dat (.int .u64))], .mix 4 [(.dat (.list (.int .u8)))], .mix 6 [(.dat (.int .u8))]])), (43641380036263450374825262925554108071954, (.carry [.tmp 0 false [(.dat (.list (.int .u8)))], .mix 4 [(.dat (.list (.int .u8)))], .mix 6 [(.dat (.int .u8))]])), (635065662736647214839835656209, (.carry [.tmp 0 false [(.dat (.int .u64))], .mix 4 [(.dat (.list (.int .u8)))], .mix 6 [(.dat (.int .u8))]])), (22344386578566886591910534617883703333095430, (.carry [.tmp 11 false [(.dat (.int .i64))], .tmp 4 false [(.dat (.int .u64))]])), (85237070383327051513330625669761335809, (.carry [.tmp 4 false [(.dat (.int .u64))], .mix 4 [(.dat (.list (.int .u8)))], .mix 6 [(.dat (.int .u8))]])), (22344386578566886591910543535573915614052370, (.carry [.tmp 0 false [(.dat (.list (.int .u8)))], .mix 4 [(.dat (.list (.int .u8)))], .mix 6 [(.dat (.int .u8))]])), (166478653092435647486973878391275537, (.carry [.tmp 0 false [(.dat (.int .u64))], .mix 4 [(.dat (.list (.int .u8)))], .mix 6 [(.dat (.int .u8))]])), (11440325928226245935058198290213844794395068422, (.carry [.tmp 11 false [(.dat (.int .i64))], .tmp 4 false [(.dat (.int .u64))]])), (22344386578566886591910543553025297598382593, (.carry [.tmp 4 false [(.dat (.int .u64))], .mix 4 [(.dat (.list (.int .u8)))], .mix 6 [(.dat (.int .u8))]])), (5857446875251837918749797529164263613630406197266, (.carry [.tmp 0 false [(.dat (.list (.int .u8)))], .mix 4 [(.dat (.list (.int .u8)))], .mix 6 [(.dat (.int .u8))]])), (11440325928226245935058198299148986388660355090, (.carry [.tmp 0 false [(.dat (.int .u64))], .mix 4 [(.dat (.list (.int .u8)))], .mix 6 [(.dat (.int .u8))]])), (2999012800128941014399896334932102970178767973255174, (.carry [.tmp 11 false [(.dat (.int .i64))], .tmp 4 false [(.dat (.int .u64))]])), (1535494553666017799372746923485241286588917823853298177, (.carry [.tmp 4 false [(.dat (.int .u64))], .mix 4 [(.dat (.list (.int .u8)))], .mix 6 [(.dat (.int .u8))]])), (402520684276224569998769369510115091831565274016198997049362, (.carry [.tmp 0 false [(.dat (.list (.int .u8)))], .mix 4 [(.dat (.list (.int .u8)))], .mix 6 [(.dat (.int .u8))]])), (11440325928226245935058198299148986388660355092, (.carry [.tmp 0 false [(.dat (.list (.int .u8)))], .mix 4 [(.dat (.list (.int .u8)))], .mix 6 [(.dat (.int .u8))]])), (206090590349426979839369917189178927017761420296293886489528326, (.carry [.tmp 11 false [(.dat (.int .i64))], .tmp 4 false [(.dat (.int .u64))]])), (43641380036263450374825280377002664394769, (.carry [.tmp 0 false [(.dat (.int .u64))], .mix 4 [(.dat (.list (.int .u8)))], .mix 6 [(.dat (.int .u8))]])), (5857446875251837918749797529164281065012390527489, (.carry [.tmp 4 false [(.dat (.int .u64))], .mix 4 [(.dat (.list (.int .u8)))], .mix 6 [(.dat (.int .u8))]])), (1535494553666017799372746923485241295506608102437814290, (.carry [.tmp 0 false [(.dat (.list (.int .u8)))], .mix 4 [(.dat (.list (.int .u8)))], .mix 6 [(.dat (.int .u8))]])), (43641380036263450374825280377002664395265, (.carry [.mix 24 [(.dat .str), (.dat .str), (.dat (.int .i64)), (.dat .bool), (.own 10000004 65 (.pair .str (.pair (.int .i64) (.int .i64)))), (.dat (.int .i64)), (.dat .str), (.dat (.int .i64)), .nil], .mix 4 [(.dat (.list (.int .u8)))], .mix 6 [(.dat (.int .u8))]])), (786173211477001113278846424824443543299383348448161171462, (.carry [.tmp 11 false [(.dat (.int .i64))], .tmp 4 false [(.dat (.int .u64))]])), (11440325928226245935058198299148986455232086033, (.carry [.tmp 0 false [(.dat (.int .u64))], .mix 4 [(.dat (.list (.int .u8)))], .mix 6 [(.dat (.int .u8))]])), (22344386578566886591910543553025364170375681, (.carry [.mix 24 [(.dat .str), (.dat .str), (.dat (.int .i64)), (.dat .bool), (.own 10000006 65 (.pair .str (.pair (.int .i64) (.int .i64)))), (.dat (.int .i64)), (.dat .str), (.dat (.int .i64)), (.own 10000002 9 .str)], .mix 4 [(.dat (.list (.int .u8)))], .mix 6 [(.dat (.int .u8))], .dead 10000004])), (1535494553666017799372746923485241295524024300050055681, (.carry [.tmp 4 false [(.dat (.int .u64))], .mix 4 [(.dat (.list (.int .u8)))], .mix 6 [(.dat (.int .u8))]])), (5857446875251837918749797529164281065078828304390, (.carry [.tmp 47 false [(.dat (.int .u64))], .mix 24 [(.dat .str), (.dat .str), (.dat (.int .i64)), (.dat .bool), (.own 10000003 65 (.pair .str (.pair (.int .i64) (.int .i64)))), (.dat (.int .i64)), (.dat .str), (.dat (.int .i64)), .nil], .mix 4 [(.dat (.list (.int .u8)))], .mix 6 [(.dat (.int .u8))]])), (5857446875251837918749797529164281065078962257937, (.carry [.tmp 0 false [(.dat (.int .u64))], .mix 4 [(.dat (.list (.int .u8)))], .mix 6 [(.dat (.int .u8))]])), (402520684276224569998769369510115094173849826112321796177938, (.carry [.tmp 0 false [(.dat (.list (.int .u8)))], .mix 4 [(.dat (.list (.int .u8)))], .mix 6 [(.dat (.int .u8))]])), (786173211477001113278846424824443543308318454858054369793, (.carry [.tmp 4 false [(.dat (.int .u64))], .mix 4 [(.dat (.list (.int .u8)))], .mix 6 [(.dat (.int .u8))]])), (2999012800128941014399896334932111905320428676319238, (.carry [.tmp 69 false [(.dat (.int .u64))], .mix 24 [(.dat .str), (.dat .str), (.dat (.int .i64)), (.dat .bool), (.own 10000005 65 (.pair .str (.pair (.int .i64) (.int .i64)))), (.dat (.int .i64)), (.dat .str), (.dat (.int .i64)), (.own 10000001 9 .str)], .mix 4 [(.dat (.list (.int .u8)))], .mix 6 [(.dat (.int .u8))], .dead 10000004])), (14162437529025953452002322041180027868550309617466840484466301507352133650, (.carry [.tmp 0 false [(.dat (.int .u64))], .mix 4 [(.dat (.list (.int .u8)))], .mix 6 [(.dat (.int .u8))]])), (206090590349426979839369917189178928217015833030309804714754066, (.carry [.tmp 0 false [(.dat (.list (.int .u8)))], .mix 4 [(.dat (.list (.int .u8)))], .mix 6 [(.dat (.int .u8))]])), (206090590349426979839369917189178928217011110969508759643359238, (.carry [.tmp 11 false [(.dat (.int .i64))], .tmp 4 false [(.dat (.int .u64))]])), (1900850188087797525361508715091505779493505210552948445163486280879778674455609857, (.carry [.tmp 4 false [(.dat (.int .u64))], .mix 4 [(.dat (.list (.int .u8)))], .mix 6 [(.dat (.int .u8))]])), (14162437529025953452002322041180027868550633498476566587794072858018447378, (.carry [.tmp 0 false [(.dat (.int .u64))], .mix 4 [(.dat (.list (.int .u8)))], .mix 6 [(.dat (.int .u8))]])), (498296471706087594488367340608947691059545429915192117208936947614948700836491390091282, (.carry [.tmp 0 false [(.dat (.list (.int .u8)))], .mix 4 [(.dat (.list (.int .u8)))], .mix 6 [(.dat (.int .u8))]])), (105518382258906613677757397600859611247112106511518620013954336774, (.carry [.tmp 11 false [(.dat (.int .i64))], .tmp 4 false [(.dat (.int .u64))]])), (1900850188087797525361508715091505779493548681126216228654432990869702589162979841, (.carry [.tmp 4 false [(.dat (.int .u64))], .mix 4 [(.dat (.list (.int .u8)))], .mix 6 [(.dat (.int .u8))]])), (14162437529025953452002322041180027868550309617466840484466301507352133652, (.carry [.tmp 0 false [(.dat (.list (.int .u8)))], .mix 4 [(.dat (.list (.int .u8)))], .mix 6 [(.dat (.int .u8))]])), (498296471706087594488367340608947691059556825465150827044387681958547315533540187176978, (.carry [.tmp 0 false [(.dat (.list (.int .u8)))], .mix 4 [(.dat (.list (.int .u8)))], .mix 6 [(.dat (.int .u8))]])), (255127793513516848378044078391781217822487260116578364010975717178853734828283591726991366, (.carry [.tmp 11 false [(.dat (.int .i64))], .tmp 4 false [(.dat (.int .u64))]])), (14162437529025953452002322041180027868550633498476566587794072858018447380, (.carry [.tmp 0 false [(.dat (.list (.int .u8)))], .mix 4 [(.dat (.list (.int .u8)))], .mix 6 [(.dat (.int .u8))]])), (54025411716560186203011787571640120958520163030497896135201650901009, (.carry [.tmp 0 false [(.dat (.int .u64))], .mix 4 [(.dat (.list (.int .u8)))], .mix 6 [(.dat (.int .u8))]])), (255127793513516848378044078391781217822493094638157223446726493162776225553172575834867718, (.carry [.tmp 11 false [(.dat (.int .i64))], .tmp 4 false [(.dat (.int .u64))]])), (7251168014861288167425188885084174268697758524143022328046746405782581150209, (.carry [.tmp 4 false [(.dat (.int .u64))], .mix 4 [(.dat (.list (.int .u8)))], .mix 6 [(.dat (.int .u8))]])), (1900850188087797525361508715091505779493505210552948445163486289797468953040125970, (.carry [.tmp 0 false [(.dat (.list (.int .u8)))], .mix 4 [(.dat (.list (.int .u8)))], .mix 6 [(.dat (.int .u8))]])), (27661010798878815335942035236679741930762323471614922821223245261570065, (.carry [.tmp 0 false [(.dat (.int .u64))], .mix 4 [(.dat (.list (.int .u8)))], .mix 6 [(.dat (.int .u8))]])), (973235296300952332985092462126850959100674667803109603923704980376304103956544751622, (.carry [.tmp 11 false [(.dat (.int .i64))], .tmp 4 false [(.dat (.int .u64))]])), (3712598023608979541721696709163097225573252364361227431959934159794699837374977, (.carry [.tmp 4 false [(.dat (.int .u64))], .mix 4 [(.dat (.list (.int .u8)))], .mix 6 [(.dat (.int .u8))]])), (973235296300952332985092462126850959100674667803109603923704980385221794168825708562, (.carry [.tmp 0 false [(.dat (.list (.int .u8)))], .mix 4 [(.dat (.list (.int .u8)))], .mix 6 [(.dat (.int .u8))]])), (498296471706087594488367340608947691059545429915192117208936949957233558614438763038726, (.carry [.tmp 11 false [(.dat (.int .i64))], .tmp 4 false [(.dat (.int .u64))]]))]
noncomputable def registrar_DecodeAct : (List Int) → Option (Int × (((List UInt8) × ((List UInt8) × (Int × (Bool × ((List ((List UInt8) × (Int × Int))) × (Int × ((List UInt8) × (Int × (List (List UInt8)))))))))) × Int)) := fun a1 =>
 joinO (joinO (joinO (bif (decide ((((List.length a1) : Nat) : Int) < (8 : Int))) then
 some (Sum.inl (([] : List Int), (a1, (6 : Int))))
 else
 bif ((decide (((0 : Int) ≤ (8 : Int)) ∧ ((8 : Int) ≤ (((List.length a1) : Nat) : Int)))) && Bool.true) then 
 bif (decide (((0 : Int) ≤ (8 : Int)) ∧ ((8 : Int) ≤ (((List.length a1) : Nat) : Int)))) then 
 some (Sum.inl ((List.take 8 a1), ((List.drop 8 a1), (0 : Int))))
 else none
 else none) fun (v4, (v5, v6)) =>
 loopO (fun (v7, v8) =>
 bif (decide (v7 < (((List.length v4) : Nat) : Int))) then
 bif (decide (((0 : Int) ≤ v7) ∧ (v7 < (((List.length v4) : Nat) : Int)))) then 
 bindO v4[(Int.toNat v7)]? fun x9 =>
 some (Sum.inl ((Go.IntKind.wrap .i64 (v7 + (1 : Int))), (Go.IntKind.wrap .u64 (((BitVec.toNat ((BitVec.ofInt 64 (Go.IntKind.wrap .u64 (v8 * (256 : Int)))) ||| (BitVec.ofInt 64 (Go.IntKind.wrap .u64 x9)))) : Nat) : Int))))
 else none
 else
 outO (some (Sum.inl (v8, (v5, v6))))) ((0 : Int), (0 : Int))) fun (v14, (v15, v16)) =>
 some (Sum.inl (v14, (v15, v16)))) fun (v17, (v18, v19)) =>
 joinO (joinO (joinO (bif (decide (v19 ≠ (0 : Int))) then
 some (Sum.inl (([] : List Int), (v18, (6 : Int))))
 else
 bif (decide ((((List.length v18) : Nat) : Int) < (2 : Int))) then
 some (Sum.inl (([] : List Int), (v18, (6 : Int))))
 else
 bif ((decide (((0 : Int) ≤ (2 : Int)) ∧ ((2 : Int) ≤ (((List.length v18) : Nat) : Int)))) && Bool.true) then 
 bif (decide (((0 : Int) ≤ (2 : Int)) ∧ ((2 : Int) ≤ (((List.length v18) : Nat) : Int)))) then 
 some (Sum.inl ((List.take 2 v18), ((List.drop 2 v18), v19)))
 else none
 else none) fun (v22, (v23, v24)) =>
 loopO (fun (v25, v26) =>
 bif (decide (v25 < (((List.length v22) : Nat) : Int))) then
 bif (decide (((0 : Int) ≤ v25) ∧ (v25 < (((List.length v22) : Nat) : Int)))) then 
 bindO v22[(Int.toNat v25)]? fun x27 =>
 some (Sum.inl ((Go.IntKind.wrap .i64 (v25 + (1 : Int))), (Go.IntKind.wrap .u64 (((BitVec.toNat ((BitVec.ofInt 64 (Go.IntKind.wrap .u64 (v26 * (256 : Int)))) ||| (BitVec.ofInt 64 (Go.IntKind.wrap .u64 x27)))) : Nat) : Int))))
 else none
 else
 outO (some (Sum.inl (v26, (v23, v24))))) ((0 : Int), (0 : Int))) fun (v32, (v33, v34)) =>
 some (Sum.inl (v32, (v33, v34)))) fun (v35, (v36, v37)) =>
 joinO (bif (decide (v37 ≠ (0 : Int))) then
 some (Sum.inl (([] : List Int), (v36, (6 : Int))))
 else
 bif (decide ((((List.length v36) : Nat) : Int) < (Go.IntKind.wrap .i64 v35))) then
 some (Sum.inl (([] : List Int), (v36, (6 : Int))))
 else
 bif ((decide (((0 : Int) ≤ (Go.IntKind.wrap .i64 v35)) ∧ ((Go.IntKind.wrap .i64 v35) ≤ (((List.length v36) : Nat) : Int)))) && (decide (((0 : Int) ≤ (Go.IntKind.wrap .i64 v35)) ∧ ((Go.IntKind.wrap .i64 v35) ≤ (((Int.toNat (Go.IntKind.wrap .i64 v35)) : Nat) : Int))))) then 
 bif (decide (((0 : Int) ≤ (Go.IntKind.wrap .i64 v35)) ∧ ((Go.IntKind.wrap .i64 v35) ≤ (((List.length v36) : Nat) : Int)))) then 
 some (Sum.inl ((List.take (Int.toNat (Go.IntKind.wrap .i64 v35)) v36), ((List.drop (Int.toNat (Go.IntKind.wrap .i64 v35)) v36), v37)))
 else none
 else none) fun (v41, (v42, v43)) =>
 joinO (joinO (joinO (bif (decide (v43 ≠ (0 : Int))) then
 some (Sum.inl (([] : List Int), (v42, (6 : Int))))
 else
 bif (decide ((((List.length v42) : Nat) : Int) < (2 : Int))) then
 some (Sum.inl (([] : List Int), (v42, (6 : Int))))
 else
 bif ((decide (((0 : Int) ≤ (2 : Int)) ∧ ((2 : Int) ≤ (((List.length v42) : Nat) : Int)))) && Bool.true) then 
 bif (decide (((0 : Int) ≤ (2 : Int)) ∧ ((2 : Int) ≤ (((List.length v42) : Nat) : Int)))) then 
 some (Sum.inl ((List.take 2 v42), ((List.drop 2 v42), v43)))
 else none
 else none) fun (v46, (v47, v48)) =>
 loopO (fun (v49, v50) =>
 bif (decide (v49 < (((List.length v46) : Nat) : Int))) then
 bif (decide (((0 : Int) ≤ v49) ∧ (v49 < (((List.length v46) : Nat) : Int)))) then 
 bindO v46[(Int.toNat v49)]? fun x51 =>
 some (Sum.inl ((Go.IntKind.wrap .i64 (v49 + (1 : Int))), (Go.IntKind.wrap .u64 (((BitVec.toNat ((BitVec.ofInt 64 (Go.IntKind.wrap .u64 (v50 * (256 : Int)))) ||| (BitVec.ofInt 64 (Go.IntKind.wrap .u64 x51)))) : Nat) : Int))))
 else none
 else
 outO (some (Sum.inl (v50, (v47, v48))))) ((0 : Int), (0 : Int))) fun (v56, (v57, v58)) =>
 some (Sum.inl (v56, (v57, v58)))) fun (v59, (v60, v61)) =>
 joinO (bif (decide (v61 ≠ (0 : Int))) then
 some (Sum.inl (([] : List Int), (v60, (6 : Int))))
 else
 bif (decide ((((List.length v60) : Nat) : Int) < (Go.IntKind.wrap .i64 v59))) then
 some (Sum.inl (([] : List Int), (v60, (6 : Int))))
 else
 bif ((decide (((0 : Int) ≤ (Go.IntKind.wrap .i64 v59)) ∧ ((Go.IntKind.wrap .i64 v59) ≤ (((List.length v60) : Nat) : Int)))) && (decide (((0 : Int) ≤ (Go.IntKind.wrap .i64 v59)) ∧ ((Go.IntKind.wrap .i64 v59) ≤ (((Int.toNat (Go.IntKind.wrap .i64 v59)) : Nat) : Int))))) then 
 bif (decide (((0 : Int) ≤ (Go.IntKind.wrap .i64 v59)) ∧ ((Go.IntKind.wrap .i64 v59) ≤ (((List.length v60) : Nat) : Int)))) then 
 some (Sum.inl ((List.take (Int.toNat (Go.IntKind.wrap .i64 v59)) v60), ((List.drop (Int.toNat (Go.IntKind.wrap .i64 v59)) v60), v61)))
 else none
 else none) fun (v65, (v66, v67)) =>
 joinO (joinO (joinO (bif (decide (v67 ≠ (0 : Int))) then
 some (Sum.inl (([] : List Int), (v66, (6 : Int))))
 else
 bif (decide ((((List.length v66) : Nat) : Int) < (4 : Int))) then
 some (Sum.inl (([] : List Int), (v66, (6 : Int))))
 else
 bif ((decide (((0 : Int) ≤ (4 : Int)) ∧ ((4 : Int) ≤ (((List.length v66) : Nat) : Int)))) && Bool.true) then 
 bif (decide (((0 : Int) ≤ (4 : Int)) ∧ ((4 : Int) ≤ (((List.length v66) : Nat) : Int)))) then 
 some (Sum.inl ((List.take 4 v66), ((List.drop 4 v66), v67)))
 else none
 else none) fun (v70, (v71, v72)) =>
 loopO (fun (v73, v74) =>
 bif (decide (v73 < (((List.length v70) : Nat) : Int))) then
 bif (decide (((0 : Int) ≤ v73) ∧ (v73 < (((List.length v70) : Nat) : Int)))) then 
 bindO v70[(Int.toNat v73)]? fun x75 =>
 some (Sum.inl ((Go.IntKind.wrap .i64 (v73 + (1 : Int))), (Go.IntKind.wrap .u64 (((BitVec.toNat ((BitVec.ofInt 64 (Go.IntKind.wrap .u64 (v74 * (256 : Int)))) ||| (BitVec.ofInt 64 (Go.IntKind.wrap .u64 x75)))) : Nat) : Int))))
 else none
 else
 outO (some (Sum.inl (v74, (v71, v72))))) ((0 : Int), (0 : Int))) fun (v80, (v81, v82)) =>
 some (Sum.inl (v80, (v81, v82)))) fun (v83, (v84, v85)) =>
 bindO (registrar_signed v83) fun x86 =>
 joinO (joinO (joinO (bif (decide (v85 ≠ (0 : Int))) then
 some (Sum.inl (([] : List Int), (v84, (6 : Int))))
 else
 bif (decide ((((List.length v84) : Nat) : Int) < (1 : Int))) then
 some (Sum.inl (([] : List Int), (v84, (6 : Int))))
 else
 bif ((decide (((0 : Int) ≤ (1 : Int)) ∧ ((1 : Int) ≤ (((List.length v84) : Nat) : Int)))) && Bool.true) then 
 bif (decide (((0 : Int) ≤ (1 : Int)) ∧ ((1 : Int) ≤ (((List.length v84) : Nat) : Int)))) then 
 some (Sum.inl ((List.take 1 v84), ((List.drop 1 v84), v85)))
 else none
 else none) fun (v89, (v90, v91)) =>
 loopO (fun (v92, v93) =>
 bif (decide (v92 < (((List.length v89) : Nat) : Int))) then
 bif (decide (((0 : Int) ≤ v92) ∧ (v92 < (((List.length v89) : Nat) : Int)))) then 
 bindO v89[(Int.toNat v92)]? fun x94 =>
 some (Sum.inl ((Go.IntKind.wrap .i64 (v92 + (1 : Int))), (Go.IntKind.wrap .u64 (((BitVec.toNat ((BitVec.ofInt 64 (Go.IntKind.wrap .u64 (v93 * (256 : Int)))) ||| (BitVec.ofInt 64 (Go.IntKind.wrap .u64 x94)))) : Nat) : Int))))
 else none
 else
 outO (some (Sum.inl (v93, (v90, v91))))) ((0 : Int), (0 : Int))) fun (v99, (v100, v101)) =>
 some (Sum.inl (v99, (v100, v101)))) fun (v102, (v103, v104)) =>
 joinO (joinO (joinO (bif (decide (v104 ≠ (0 : Int))) then
 some (Sum.inl (([] : List Int), (v103, (6 : Int))))
 else
 bif (decide ((((List.length v103) : Nat) : Int) < (4 : Int))) then
 some (Sum.inl (([] : List Int), (v103, (6 : Int))))
 else
 bif ((decide (((0 : Int) ≤ (4 : Int)) ∧ ((4 : Int) ≤ (((List.length v103) : Nat) : Int)))) && Bool.true) then 
 bif (decide (((0 : Int) ≤ (4 : Int)) ∧ ((4 : Int) ≤ (((List.length v103) : Nat) : Int)))) then 
 some (Sum.inl ((List.take 4 v103), ((List.drop 4 v103), v104)))
 else none
 else none) fun (v107, (v108, v109)) =>
 loopO (fun (v110, v111) =>
 bif (decide (v110 < (((List.length v107) : Nat) : Int))) then
 bif (decide (((0 : Int) ≤ v110) ∧ (v110 < (((List.length v107) : Nat) : Int)))) then 
 bindO v107[(Int.toNat v110)]? fun x112 =>
 some (Sum.inl ((Go.IntKind.wrap .i64 (v110 + (1 : Int))), (Go.IntKind.wrap .u64 (((BitVec.toNat ((BitVec.ofInt 64 (Go.IntKind.wrap .u64 (v111 * (256 : Int)))) ||| (BitVec.ofInt 64 (Go.IntKind.wrap .u64 x112)))) : Nat) : Int))))
 else none
 else
 outO (some (Sum.inl (v111, (v108, v109))))) ((0 : Int), (0 : Int))) fun (v117, (v118, v119)) =>
 some (Sum.inl (v117, (v118, v119)))) fun (v120, (v121, v122)) =>
 bindO (registrar_signed v120) fun x123 =>
 joinO (joinO (joinO (bif (decide (v122 ≠ (0 : Int))) then
 some (Sum.inl (([] : List Int), (v121, (6 : Int))))
 else
 bif (decide ((((List.length v121) : Nat) : Int) < (2 : Int))) then
 some (Sum.inl (([] : List Int), (v121, (6 : Int))))
 else
 bif ((decide (((0 : Int) ≤ (2 : Int)) ∧ ((2 : Int) ≤ (((List.length v121) : Nat) : Int)))) && Bool.true) then 
 bif (decide (((0 : Int) ≤ (2 : Int)) ∧ ((2 : Int) ≤ (((List.length v121) : Nat) : Int)))) then 
 some (Sum.inl ((List.take 2 v121), ((List.drop 2 v121), v122)))
 else none
 else none) fun (v126, (v127, v128)) =>
 loopO (fun (v129, v130) =>
 bif (decide (v129 < (((List.length v126) : Nat) : Int))) then
 bif (decide (((0 : Int) ≤ v129) ∧ (v129 < (((List.length v126) : Nat) : Int)))) then 
 bindO v126[(Int.toNat v129)]? fun x131 =>
 some (Sum.inl ((Go.IntKind.wrap .i64 (v129 + (1 : Int))), (Go.IntKind.wrap .u64 (((BitVec.toNat ((BitVec.ofInt 64 (Go.IntKind.wrap .u64 (v130 * (256 : Int)))) ||| (BitVec.ofInt 64 (Go.IntKind.wrap .u64 x131)))) : Nat) : Int))))
 else none
 else
 outO (some (Sum.inl (v130, (v127, v128))))) ((0 : Int), (0 : Int))) fun (v136, (v137, v138)) =>
 some (Sum.inl (v136, (v137, v138)))) fun (v139, (v140, v141)) =>
 joinO (bif (decide (v141 ≠ (0 : Int))) then
 some (Sum.inl (([] : List Int), (v140, (6 : Int))))
 else
 bif (decide ((((List.length v140) : Nat) : Int) < (Go.IntKind.wrap .i64 v139))) then
 some (Sum.inl (([] : List Int), (v140, (6 : Int))))
 else
 bif ((decide (((0 : Int) ≤ (Go.IntKind.wrap .i64 v139)) ∧ ((Go.IntKind.wrap .i64 v139) ≤ (((List.length v140) : Nat) : Int)))) && (decide (((0 : Int) ≤ (Go.IntKind.wrap .i64 v139)) ∧ ((Go.IntKind.wrap .i64 v139) ≤ (((Int.toNat (Go.IntKind.wrap .i64 v139)) : Nat) : Int))))) then 
 bif (decide (((0 : Int) ≤ (Go.IntKind.wrap .i64 v139)) ∧ ((Go.IntKind.wrap .i64 v139) ≤ (((List.length v140) : Nat) : Int)))) then 
 some (Sum.inl ((List.take (Int.toNat (Go.IntKind.wrap .i64 v139)) v140), ((List.drop (Int.toNat (Go.IntKind.wrap .i64 v139)) v140), v141)))
 else none
 else none) fun (v145, (v146, v147)) =>
 joinO (joinO (joinO (bif (decide (v147 ≠ (0 : Int))) then
 some (Sum.inl (([] : List Int), (v146, (6 : Int))))
 else
 bif (decide ((((List.length v146) : Nat) : Int) < (4 : Int))) then
 some (Sum.inl (([] : List Int), (v146, (6 : Int))))
 else
 bif ((decide (((0 : Int) ≤ (4 : Int)) ∧ ((4 : Int) ≤ (((List.length v146) : Nat) : Int)))) && Bool.true) then 
 bif (decide (((0 : Int) ≤ (4 : Int)) ∧ ((4 : Int) ≤ (((List.length v146) : Nat) : Int)))) then 
 some (Sum.inl ((List.take 4 v146), ((List.drop 4 v146), v147)))
 else none
 else none) fun (v150, (v151, v152)) =>
 loopO (fun (v153, v154) =>
 bif (decide (v153 < (((List.length v150) : Nat) : Int))) then
 bif (decide (((0 : Int) ≤ v153) ∧ (v153 < (((List.length v150) : Nat) : Int)))) then 
 bindO v150[(Int.toNat v153)]? fun x155 =>
 some (Sum.inl ((Go.IntKind.wrap .i64 (v153 + (1 : Int))), (Go.IntKind.wrap .u64 (((BitVec.toNat ((BitVec.ofInt 64 (Go.IntKind.wrap .u64 (v154 * (256 : Int)))) ||| (BitVec.ofInt 64 (Go.IntKind.wrap .u64 x155)))) : Nat) : Int))))
 else none
 else
 outO (some (Sum.inl (v154, (v151, v152))))) ((0 : Int), (0 : Int))) fun (v160, (v161, v162)) =>
 some (Sum.inl (v160, (v161, v162)))) fun (v163, (v164, v165)) =>
 bindO (registrar_signed v163) fun x166 =>
 joinO (joinO (joinO (joinO (bif (decide (v165 ≠ (0 : Int))) then
 some (Sum.inl (([] : List Int), (v164, (6 : Int))))
 else
 bif (decide ((((List.length v164) : Nat) : Int) < (1 : Int))) then
 some (Sum.inl (([] : List Int), (v164, (6 : Int))))
 else
 bif ((decide (((0 : Int) ≤ (1 : Int)) ∧ ((1 : Int) ≤ (((List.length v164) : Nat) : Int)))) && Bool.true) then 
 bif (decide (((0 : Int) ≤ (1 : Int)) ∧ ((1 : Int) ≤ (((List.length v164) : Nat) : Int)))) then 
 some (Sum.inl ((List.take 1 v164), ((List.drop 1 v164), v165)))
 else none
 else none) fun (v169, (v170, v171)) =>
 loopO (fun (v172, v173) =>
 bif (decide (v172 < (((List.length v169) : Nat) : Int))) then
 bif (decide (((0 : Int) ≤ v172) ∧ (v172 < (((List.length v169) : Nat) : Int)))) then 
 bindO v169[(Int.toNat v172)]? fun x174 =>
 some (Sum.inl ((Go.IntKind.wrap .i64 (v172 + (1 : Int))), (Go.IntKind.wrap .u64 (((BitVec.toNat ((BitVec.ofInt 64 (Go.IntKind.wrap .u64 (v173 * (256 : Int)))) ||| (BitVec.ofInt 64 (Go.IntKind.wrap .u64 x174)))) : Nat) : Int))))
 else none
 else
 outO (some (Sum.inl (v173, (v170, v171))))) ((0 : Int), (0 : Int))) fun (v179, (v180, v181)) =>
 some (Sum.inl (v179, (v180, v181)))) fun (v182, (v183, v184)) =>
 loopO (fun (v185, ((v186, (v187, (v188, (v189, (v190, (v191, (v192, v193))))))), (v194, v195))) =>
 bif (decide (v185 < v182)) then
 joinO (joinO (joinO (bif (decide (v195 ≠ (0 : Int))) then
 some (Sum.inl (([] : List Int), (v194, (6 : Int))))
 else
 bif (decide ((((List.length v194) : Nat) : Int) < (2 : Int))) then
 some (Sum.inl (([] : List Int), (v194, (6 : Int))))
 else
 bif ((decide (((0 : Int) ≤ (2 : Int)) ∧ ((2 : Int) ≤ (((List.length v194) : Nat) : Int)))) && Bool.true) then 
 bif (decide (((0 : Int) ≤ (2 : Int)) ∧ ((2 : Int) ≤ (((List.length v194) : Nat) : Int)))) then 
 some (Sum.inl ((List.take 2 v194), ((List.drop 2 v194), v195)))
 else none
 else none) fun (v198, (v199, v200)) =>
 loopO (fun (v201, v202) =>
 bif (decide (v201 < (((List.length v198) : Nat) : Int))) then
 bif (decide (((0 : Int) ≤ v201) ∧ (v201 < (((List.length v198) : Nat) : Int)))) then 
 bindO v198[(Int.toNat v201)]? fun x203 =>
 some (Sum.inl ((Go.IntKind.wrap .i64 (v201 + (1 : Int))), (Go.IntKind.wrap .u64 (((BitVec.toNat ((BitVec.ofInt 64 (Go.IntKind.wrap .u64 (v202 * (256 : Int)))) ||| (BitVec.ofInt 64 (Go.IntKind.wrap .u64 x203)))) : Nat) : Int))))
 else none
 else
 outO (some (Sum.inl (v202, (v199, v200))))) ((0 : Int), (0 : Int))) fun (v208, (v209, v210)) =>
 some (Sum.inl (v208, (v209, v210)))) fun (v211, (v212, v213)) =>
 joinO (bif (decide (v213 ≠ (0 : Int))) then
 some (Sum.inl (([] : List Int), (v212, (6 : Int))))
 else
 bif (decide ((((List.length v212) : Nat) : Int) < (Go.IntKind.wrap .i64 v211))) then
 some (Sum.inl (([] : List Int), (v212, (6 : Int))))
 else
 bif ((decide (((0 : Int) ≤ (Go.IntKind.wrap .i64 v211)) ∧ ((Go.IntKind.wrap .i64 v211) ≤ (((List.length v212) : Nat) : Int)))) && (decide (((0 : Int) ≤ (Go.IntKind.wrap .i64 v211)) ∧ ((Go.IntKind.wrap .i64 v211) ≤ (((Int.toNat (Go.IntKind.wrap .i64 v211)) : Nat) : Int))))) then 
 bif (decide (((0 : Int) ≤ (Go.IntKind.wrap .i64 v211)) ∧ ((Go.IntKind.wrap .i64 v211) ≤ (((List.length v212) : Nat) : Int)))) then 
 some (Sum.inl ((List.take (Int.toNat (Go.IntKind.wrap .i64 v211)) v212), ((List.drop (Int.toNat (Go.IntKind.wrap .i64 v211)) v212), v213)))
 else none
 else none) fun (v217, (v218, v219)) =>
 joinO (joinO (joinO (bif (decide (v219 ≠ (0 : Int))) then
 some (Sum.inl (([] : List Int), (v218, (6 : Int))))
 else
 bif (decide ((((List.length v218) : Nat) : Int) < (2 : Int))) then
 some (Sum.inl (([] : List Int), (v218, (6 : Int))))
 else
 bif ((decide (((0 : Int) ≤ (2 : Int)) ∧ ((2 : Int) ≤ (((List.length v218) : Nat) : Int)))) && Bool.true) then 
 bif (decide (((0 : Int) ≤ (2 : Int)) ∧ ((2 : Int) ≤ (((List.length v218) : Nat) : Int)))) then 
 some (Sum.inl ((List.take 2 v218), ((List.drop 2 v218), v219)))
 else none
 else none) fun (v222, (v223, v224)) =>
 loopO (fun (v225, v226) =>
 bif (decide (v225 < (((List.length v222) : Nat) : Int))) then
 bif (decide (((0 : Int) ≤ v225) ∧ (v225 < (((List.length v222) : Nat) : Int)))) then 
 bindO v222[(Int.toNat v225)]? fun x227 =>
 some (Sum.inl ((Go.IntKind.wrap .i64 (v225 + (1 : Int))), (Go.IntKind.wrap .u64 (((BitVec.toNat ((BitVec.ofInt 64 (Go.IntKind.wrap .u64 (v226 * (256 : Int)))) ||| (BitVec.ofInt 64 (Go.IntKind.wrap .u64 x227)))) : Nat) : Int))))
 else none
 else
 outO (some (Sum.inl (v226, (v223, v224))))) ((0 : Int), (0 : Int))) fun (v232, (v233, v234)) =>
 some (Sum.inl (v232, (v233, v234)))) fun (v235, (v236, v237)) =>
 joinO (joinO (joinO (bif (decide (v237 ≠ (0 : Int))) then
 some (Sum.inl (([] : List Int), (v236, (6 : Int))))
 else
 bif (decide ((((List.length v236) : Nat) : Int) < (4 : Int))) then
 some (Sum.inl (([] : List Int), (v236, (6 : Int))))
 else
 bif ((decide (((0 : Int) ≤ (4 : Int)) ∧ ((4 : Int) ≤ (((List.length v236) : Nat) : Int)))) && Bool.true) then 
 bif (decide (((0 : Int) ≤ (4 : Int)) ∧ ((4 : Int) ≤ (((List.length v236) : Nat) : Int)))) then 
 some (Sum.inl ((List.take 4 v236), ((List.drop 4 v236), v237)))
 else none
 else none) fun (v241, (v242, v243)) =>
 loopO (fun (v244, v245) =>
 bif (decide (v244 < (((List.length v241) : Nat) : Int))) then
 bif (decide (((0 : Int) ≤ v244) ∧ (v244 < (((List.length v241) : Nat) : Int)))) then 
 bindO v241[(Int.toNat v244)]? fun x246 =>
 some (Sum.inl ((Go.IntKind.wrap .i64 (v244 + (1 : Int))), (Go.IntKind.wrap .u64 (((BitVec.toNat ((BitVec.ofInt 64 (Go.IntKind.wrap .u64 (v245 * (256 : Int)))) ||| (BitVec.ofInt 64 (Go.IntKind.wrap .u64 x246)))) : Nat) : Int))))
 else none
 else
 outO (some (Sum.inl (v245, (v242, v243))))) ((0 : Int), (0 : Int))) fun (v251, (v252, v253)) =>
 some (Sum.inl (v251, (v252, v253)))) fun (v254, (v255, v256)) =>
 bindO (registrar_signed v254) fun x257 =>
 bif (decide ((List.length v190) ≤ (List.length v190))) then 
 bif (decide (((List.length ((List.take (List.length v190) v190) ++ (((bytesU v217), ((Go.IntKind.wrap .i64 v235), x257)) :: ([] : List ((List UInt8) × (Int × Int)))))) * 32) ≤ 140737488355328)) then 
 bindO (some ((List.take (List.length v190) v190) ++ (((bytesU v217), ((Go.IntKind.wrap .i64 v235), x257)) :: ([] : List ((List UInt8) × (Int × Int)))))) fun x258 =>
 bif (decide ((List.length x258) ≤ (List.length x258))) then 
 some (Sum.inl ((Go.IntKind.wrap .u64 (v185 + (1 : Int))), ((v186, (v187, (v188, (v189, ((List.take (List.length x258) x258), (v191, (v192, v193))))))), (v255, v256))))
 else none
 else none
 else none
 else
 outO (bif (decide ((List.length v190) ≤ (List.length v190))) then 
 some (Sum.inl ((v186, (v187, (v188, (v189, ((List.take (List.length v190) v190), (v191, (v192, v193))))))), (v194, v195)))
 else none)) ((0 : Int), (((bytesU v41), ((bytesU v65), (x86, ((decide (v102 = (1 : Int))), (([] : List ((List UInt8) × (Int × Int))), (x123, ((bytesU v145), x166))))))), (v183, v184)))) fun ((v260, (v261, (v262, (v263, (v264, (v265, (v266, v267))))))), (v268, v269)) =>
 joinO (joinO (joinO (joinO (bif (decide (v269 ≠ (0 : Int))) then
 some (Sum.inl (([] : List Int), (v268, (6 : Int))))
 else
 bif (decide ((((List.length v268) : Nat) : Int) < (1 : Int))) then
 some (Sum.inl (([] : List Int), (v268, (6 : Int))))
 else
 bif ((decide (((0 : Int) ≤ (1 : Int)) ∧ ((1 : Int) ≤ (((List.length v268) : Nat) : Int)))) && Bool.true) then 
 bif (decide (((0 : Int) ≤ (1 : Int)) ∧ ((1 : Int) ≤ (((List.length v268) : Nat) : Int)))) then 
 some (Sum.inl ((List.take 1 v268), ((List.drop 1 v268), v269)))
 else none
 else none) fun (v272, (v273, v274)) =>
 loopO (fun (v275, v276) =>
 bif (decide (v275 < (((List.length v272) : Nat) : Int))) then
 bif (decide (((0 : Int) ≤ v275) ∧ (v275 < (((List.length v272) : Nat) : Int)))) then 
 bindO v272[(Int.toNat v275)]? fun x277 =>
 some (Sum.inl ((Go.IntKind.wrap .i64 (v275 + (1 : Int))), (Go.IntKind.wrap .u64 (((BitVec.toNat ((BitVec.ofInt 64 (Go.IntKind.wrap .u64 (v276 * (256 : Int)))) ||| (BitVec.ofInt 64 (Go.IntKind.wrap .u64 x277)))) : Nat) : Int))))
 else none
 else
 outO (some (Sum.inl (v276, (v273, v274))))) ((0 : Int), (0 : Int))) fun (v282, (v283, v284)) =>
 some (Sum.inl (v282, (v283, v284)))) fun (v285, (v286, v287)) =>
 bif (decide ((List.length v264) ≤ (List.length v264))) then 
 loopO (fun (v288, ((v289, (v290, (v291, (v292, (v293, (v294, (v295, (v296, v297)))))))), (v298, v299))) =>
 bif (decide (v288 < v285)) then
 joinO (joinO (joinO (bif (decide (v299 ≠ (0 : Int))) then
 some (Sum.inl (([] : List Int), (v298, (6 : Int))))
 else
 bif (decide ((((List.length v298) : Nat) : Int) < (2 : Int))) then
 some (Sum.inl (([] : List Int), (v298, (6 : Int))))
 else
 bif ((decide (((0 : Int) ≤ (2 : Int)) ∧ ((2 : Int) ≤ (((List.length v298) : Nat) : Int)))) && Bool.true) then 
 bif (decide (((0 : Int) ≤ (2 : Int)) ∧ ((2 : Int) ≤ (((List.length v298) : Nat) : Int)))) then 
 some (Sum.inl ((List.take 2 v298), ((List.drop 2 v298), v299)))
 else none
 else none) fun (v302, (v303, v304)) =>
 loopO (fun (v305, v306) =>
 bif (decide (v305 < (((List.length v302) : Nat) : Int))) then
 bif (decide (((0 : Int) ≤ v305) ∧ (v305 < (((List.length v302) : Nat) : Int)))) then 
 bindO v302[(Int.toNat v305)]? fun x307 =>
 some (Sum.inl ((Go.IntKind.wrap .i64 (v305 + (1 : Int))), (Go.IntKind.wrap .u64 (((BitVec.toNat ((BitVec.ofInt 64 (Go.IntKind.wrap .u64 (v306 * (256 : Int)))) ||| (BitVec.ofInt 64 (Go.IntKind.wrap .u64 x307)))) : Nat) : Int))))
 else none
 else
 outO (some (Sum.inl (v306, (v303, v304))))) ((0 : Int), (0 : Int))) fun (v312, (v313, v314)) =>
 some (Sum.inl (v312, (v313, v314)))) fun (v315, (v316, v317)) =>
 joinO (bif (decide (v317 ≠ (0 : Int))) then
 some (Sum.inl (([] : List Int), (v316, (6 : Int))))
 else
 bif (decide ((((List.length v316) : Nat) : Int) < (Go.IntKind.wrap .i64 v315))) then
 some (Sum.inl (([] : List Int), (v316, (6 : Int))))
 else
 bif ((decide (((0 : Int) ≤ (Go.IntKind.wrap .i64 v315)) ∧ ((Go.IntKind.wrap .i64 v315) ≤ (((List.length v316) : Nat) : Int)))) && (decide (((0 : Int) ≤ (Go.IntKind.wrap .i64 v315)) ∧ ((Go.IntKind.wrap .i64 v315) ≤ (((Int.toNat (Go.IntKind.wrap .i64 v315)) : Nat) : Int))))) then 
 bif (decide (((0 : Int) ≤ (Go.IntKind.wrap .i64 v315)) ∧ ((Go.IntKind.wrap .i64 v315) ≤ (((List.length v316) : Nat) : Int)))) then 
 some (Sum.inl ((List.take (Int.toNat (Go.IntKind.wrap .i64 v315)) v316), ((List.drop (Int.toNat (Go.IntKind.wrap .i64 v315)) v316), v317)))
 else none
 else none) fun (v321, (v322, v323)) =>
 bif (decide ((List.length v297) ≤ (List.length v297))) then 
 bif (decide (((List.length ((List.take (List.length v297) v297) ++ ((bytesU v321) :: ([] : List (List UInt8))))) * 16) ≤ 140737488355328)) then 
 bindO (some ((List.take (List.length v297) v297) ++ ((bytesU v321) :: ([] : List (List UInt8))))) fun x324 =>
 bif ((decide ((List.length v293) ≤ (List.length v293))) && (decide ((List.length x324) ≤ (List.length x324)))) then 
 some (Sum.inl ((Go.IntKind.wrap .u64 (v288 + (1 : Int))), ((v289, (v290, (v291, (v292, ((List.take (List.length v293) v293), (v294, (v295, (v296, (List.take (List.length x324) x324))))))))), (v322, v323))))
 else none
 else none
 else none
 else
 outO (bif ((decide ((List.length v293) ≤ (List.length v293))) && (decide ((List.length v297) ≤ (List.length v297)))) then 
 some (Sum.inl ((v289, (v290, (v291, (v292, ((List.take (List.length v293) v293), (v294, (v295, (v296, (List.take (List.length v297) v297))))))))), (v298, v299)))
 else none)) ((0 : Int), ((v260, (v261, (v262, (v263, ((List.take (List.length v264) v264), (v265, (v266, (v267, ([] : List (List UInt8)))))))))), (v286, v287)))
 else none) fun ((v326, (v327, (v328, (v329, (v330, (v331, (v332, (v333, v334)))))))), (v335, v336)) =>
 bif (decide (v336 ≠ (0 : Int))) then
 some ((0 : Int), ((([] : List UInt8), (([] : List UInt8), ((0 : Int), (Bool.false, (([] : List ((List UInt8) × (Int × Int))), ((0 : Int), (([] : List UInt8), ((0 : Int), ([] : List (List UInt8)))))))))), v336))
 else
 bif (decide ((((List.length v335) : Nat) : Int) > (0 : Int))) then
 some ((0 : Int), ((([] : List UInt8), (([] : List UInt8), ((0 : Int), (Bool.false, (([] : List ((List UInt8) × (Int × Int))), ((0 : Int), (([] : List UInt8), ((0 : Int), ([] : List (List UInt8)))))))))), (5 : Int)))
 else
 bif (decide (v102 > (1 : Int))) then
 some ((0 : Int), ((([] : List UInt8), (([] : List UInt8), ((0 : Int), (Bool.false, (([] : List ((List UInt8) × (Int × Int))), ((0 : Int), (([] : List UInt8), ((0 : Int), ([] : List (List UInt8)))))))))), (5 : Int)))
 else
 bif (decide (v17 > (1099511627776 : Int))) then
 some ((0 : Int), ((([] : List UInt8), (([] : List UInt8), ((0 : Int), (Bool.false, (([] : List ((List UInt8) × (Int × Int))), ((0 : Int), (([] : List UInt8), ((0 : Int), ([] : List (List UInt8)))))))))), (5 : Int)))
 else
 bif ((decide ((List.length v330) ≤ (List.length v330))) && (decide ((List.length v334) ≤ (List.length v334)))) then 
 bindO (registrar_Formed (v326, (v327, (v328, (v329, ((List.take (List.length v330) v330), (v331, (v332, (v333, (List.take (List.length v334) v334)))))))))) fun x337 =>
 bif (!x337) then
 some ((0 : Int), ((([] : List UInt8), (([] : List UInt8), ((0 : Int), (Bool.false, (([] : List ((List UInt8) × (Int × Int))), ((0 : Int), (([] : List UInt8), ((0 : Int), ([] : List (List UInt8)))))))))), (5 : Int)))
 else
 bif ((decide ((List.length v330) ≤ (List.length v330))) && (decide ((List.length v334) ≤ (List.length v334)))) then 
 some ((Go.IntKind.wrap .i64 v17), ((v326, (v327, (v328, (v329, ((List.take (List.length v330) v330), (v331, (v332, (v333, (List.take (List.length v334) v334))))))))), (0 : Int)))
 else none
 else none
noncomputable def cons24 : List (Nat × CE) := [(9, ⟨[], riB, (fun _ => some true)⟩), (34, ⟨[(.tmp 0 false [(.dat (.int .i64))]), (.tmp 1 false [(.dat (.int .i64))]), (.tmp 2 false [(.dat (.int .i64))])], [(.tmp 0 false [(.dat .bool)])], registrar_within⟩), (10, ⟨[(.tmp 0 true [(.dat (.int .i64)), (.dat (.int .i64)), (.dat (.int .i64)), (.dat (.int .i64))])], [(.tmp 0 false [(.dat .bool)])], registrar_Valid⟩), (12, ⟨[(.tmp 0 true [(.dat .str), (.dat .str), (.dat (.int .i64)), (.dat .bool), (.dat (.list (.pair .str (.pair (.int .i64) (.int .i64))))), (.dat (.int .i64)), (.dat .str), (.dat (.int .i64)), (.dat (.list .str))])], [(.tmp 0 false [(.dat .bool)])], registrar_Formed⟩), (33, ⟨[(.tmp 0 false [(.dat (.int .i64))]), (.tmp 1 false [(.dat (.int .i64))]), (.tmp 2 false [(.dat (.int .i64))])], [(.tmp 0 false [(.dat .bool)])], dialtoneref22_within⟩), (11, ⟨[(.tmp 0 true [(.dat (.int .i64)), (.dat (.int .i64)), (.dat (.int .i64)), (.dat (.int .i64))])], [(.tmp 0 false [(.dat .bool)])], dialtoneref22_Valid⟩), (39, ⟨[(.tmp 0 true [(.dat .str), (.dat .str), (.dat (.int .i64)), (.dat .bool), (.dat (.list (.pair .str (.pair (.int .i64) (.int .i64))))), (.dat (.int .i64)), (.dat .str), (.dat (.int .i64)), (.dat (.list .str))])], [(.tmp 0 false [(.dat .bool)])], dialtoneref22_contacts⟩), (13, ⟨[(.tmp 0 true [(.dat .str), (.dat .str), (.dat (.int .i64)), (.dat .bool), (.dat (.list (.pair .str (.pair (.int .i64) (.int .i64))))), (.dat (.int .i64)), (.dat .str), (.dat (.int .i64)), (.dat (.list .str))])], [(.tmp 0 false [(.dat .bool)])], dialtoneref22_Formed⟩), (8, ⟨[(.tmp 0 true [(.dat .str), (.dat .str), (.dat (.int .i64)), (.dat .bool), (.dat (.list (.pair .str (.pair (.int .i64) (.int .i64))))), (.dat (.int .i64)), (.dat .str), (.dat (.int .i64)), (.dat (.list .str))])], [(.tmp 0 false [(.dat .bool)])], dialtonelaw22_few⟩), (3, ⟨[(.tmp 0 true [(.dat (.int .i64)), (.dat (.int .i64)), (.dat (.int .i64)), (.dat (.int .i64))]), (.tmp 1 true [(.dat .str), (.dat .str), (.dat (.int .i64)), (.dat .bool), (.dat (.list (.pair .str (.pair (.int .i64) (.int .i64))))), (.dat (.int .i64)), (.dat .str), (.dat (.int .i64)), (.dat (.list .str))])], [(.tmp 0 false [(.dat .bool)])], dialtonelaw22_RegistrarForms⟩), (22, ⟨[(.tmp 0 false [(.dat (.int .i64))]), (.tmp 1 true [(.dat .str), (.dat .str), (.dat (.int .i64)), (.dat .bool), (.dat (.list (.pair .str (.pair (.int .i64) (.int .i64))))), (.dat (.int .i64)), (.dat .str), (.dat (.int .i64)), (.dat (.list .str))])], [(.tmp 0 false [(.dat (.list (.int .u8)))]), (.tmp 1 false [(.dat (.int .u8))])], registrar_EncodeAct⟩), (60, ⟨[(.tmp 0 false [(.dat (.int .u64))])], [(.tmp 0 false [(.dat (.int .i64))])], registrar_signed⟩)]
theorem cons24_ok : ConL Try.prog cons24 := ⟨con_true (by kernel_rfl) lives_o, con34, con10, con12, con33, con11, con39, con13, con8, con3, con22, con60, trivial⟩
theorem con24 : ConOk Try.prog 24 ⟨[(.tmp 0 false [(.dat (.list (.int .u8)))])], [(.tmp 0 false [(.dat (.int .i64))]), (.tmp 1 true [(.dat .str), (.dat .str), (.dat (.int .i64)), (.dat .bool), (.dat (.list (.pair .str (.pair (.int .i64) (.int .i64))))), (.dat (.int .i64)), (.dat .str), (.dat (.int .i64)), (.dat (.list .str))]), (.tmp 2 false [(.dat (.int .u8))])], registrar_DecodeAct⟩ :=
  tree_ok (plan := planOf plan24) (eg := egNo) KK tabL_ok (conOf_ok cons24_ok) Try.func24 (by kernel_rfl) (by kernel_rfl) 10000 (fun a r h => Eq.trans (show _ = registrar_DecodeAct a from by kernel_rfl) h)
def plan23 : List (Nat × PL) := [(68853956625, (.carry [.tmp 0 false [(.own 10000004 5 (.int .u8))]])), (18049651605504513, (.carry [.tmp 0 false [(.dat (.int .i64))]])), (4731607904491931959314, (.carry [.tmp 0 false [(.own 10000006 5 (.int .u8))]])), (4731607870473375056385, (.carry [.tmp 0 false [(.dat (.int .i64))], .tmp 5 false [(.own 10000002 5 (.int .u8))]])), (1240362622515133011542409729, (.carry [.tmp 0 false [(.dat (.int .i64))]])), (635065658161854684559732639750, (.carry [.tmp 6 false [(.dat (.int .i64))], .tmp 0 false [(.dat (.int .i64))], .tmp 5 false [(.own 10000001 5 (.int .u8))]])), (325153619316607028177773455999489, (.carry [.tmp 0 false [(.dat (.int .i64))], .tmp 5 false [(.own 10000005 5 (.int .u8))]])), (43641380035651907990852733362959248787462, (.carry [.tmp 6 false [(.dat (.int .i64))], .tmp 0 false [(.dat (.int .i64))], .tmp 5 false [(.own 10000003 5 (.int .u8))]])), (2422583247133750281371666, (.carry [.tmp 0 false [(.own 10000009 5 (.int .u8))]])), (635065662736629833759894012417, (.carry [.tmp 0 false [(.dat (.int .i64))]])), (166478653092431091141153655991042561, (.carry [.tmp 0 false [(.dat (.int .i64))], .tmp 5 false [(.own 10000008 5 (.int .u8))]])), (22344386578566275049526571006011320754767878, (.carry [.tmp 6 false [(.dat (.int .i64))], .tmp 0 false [(.dat (.int .i64))], .tmp 5 false [(.own 10000007 5 (.int .u8))]])), (9241421688590303251, (.carry [.tmp 0 false [(.own 10000013 5 (.int .u8))]])), (2422583247133816455430657, (.carry [.tmp 0 false [(.dat (.int .i64))]])), (635065662736647180892414149121, (.carry [.tmp 0 false [(.dat (.int .i64))], .tmp 5 false [(.own 10000011 5 (.int .u8))]])), (85237070383327046956984839529939863558, (.carry [.tmp 6 false [(.dat (.int .i64))], .tmp 0 false [(.dat (.int .i64))], .tmp 5 false [(.own 10000010 5 (.int .u8))]])), (9241421688590303745, (.carry [.tmp 6 false [(.own 10000012 5 (.int .u8))], .dead 44])), (2422583247133816584929299, (.carry [.tmp 0 false [(.own 10000016 5 (.int .u8))]])), (635065662736647214839706157569, (.carry [.tmp 0 false [(.dat (.int .i64))]])), (166478653092435647486939930969768449, (.carry [.tmp 0 false [(.dat (.int .i64))], .tmp 5 false [(.own 10000015 5 (.int .u8))]])), (22344386578566886591905987207239157776910342, (.carry [.tmp 6 false [(.dat (.int .i64))], .tmp 0 false [(.dat (.int .i64))], .tmp 5 false [(.own 10000014 5 (.int .u8))]])), (166478653092435647486973812087717906, (.carry [.tmp 0 false [(.own 10000019 5 (.int .u8))]])), (43641380036263450374825262995922722750977, (.carry [.tmp 0 false [(.dat (.int .i64))]])), (11440325928226245935058193742803166232832115201, (.carry [.tmp 0 false [(.dat (.int .i64))], .tmp 5 false [(.own 10000018 5 (.int .u8))]])), (1535494553666017799372746311942857322977045507578529798, (.carry [.tmp 6 false [(.dat (.int .i64))], .tmp 0 false [(.dat (.int .i64))], .tmp 5 false [(.own 10000017 5 (.int .u8))]])), (635065662736647214839835656211, (.carry [.tmp 0 false [(.own 10000022 5 (.int .u8))]])), (166478653092435647486973878261776897, (.carry [.tmp 0 false [(.dat (.int .i64))]])), (43641380036263450374825280343055242887681, (.carry [.tmp 0 false [(.dat (.int .i64))], .tmp 5 false [(.own 10000021 5 (.int .u8))]])), (5857446875251837918749797524607935278872569055238, (.carry [.tmp 6 false [(.dat (.int .i64))], .tmp 0 false [(.dat (.int .i64))], .tmp 5 false [(.own 10000020 5 (.int .u8))]])), (325153619321163373997995856232961, (.carry [.tmp 6 false [(.own 10000037 5 (.int .u8))], .dead 77])), (43641380036263450374825280377002530179078, (.carry [.tmp 7 false [(.dat (.int .i64))], .tmp 6 false [(.own 10000035 5 (.int .u8))], .dead 77])), (85237070383327051513330625736333328897, (.carry [.tmp 6 false [(.own 10000029 5 (.int .u8))], .dead 85])), (206090590349426979839369917189178294398992894888625753888653330, (.carry [.tmp 0 false [(.own 10000027 5 (.int .u8))]])), (11440325928226245935058198299148986455098132486, (.carry [.tmp 8 false [(.dat (.int .i64))], .tmp 6 false [(.own 10000026 5 (.int .u8))], .dead 85])), (54025411716560186203011787571639954806929593437683909627387138540033, (.carry [.tmp 0 false [(.dat (.int .i64))]])), (105518382258906613677757397600859611245874185416751138087352139794, (.carry [.tmp 0 false [(.own 10000030 5 (.int .u8))]])), (14162437529025953452002322041179984312907751342128210805361774045438411265, (.carry [.tmp 0 false [(.dat (.int .i64))], .tmp 5 false [(.own 10000024 5 (.int .u8))]])), (27661010798878815335942035236679741930438442461888810342770839334158849, (.carry [.tmp 0 false [(.dat (.int .i64))]])), (1900850188087797525361508715091499933554119458729399139000707530428112323783952390, (.carry [.tmp 6 false [(.dat (.int .i64))], .tmp 0 false [(.dat (.int .i64))], .tmp 5 false [(.own 10000023 5 (.int .u8))]])), (7251168014861288167425188885084174268612855060729380298495318906413737312769, (.carry [.tmp 0 false [(.dat (.int .i64))], .tmp 5 false [(.own 10000028 5 (.int .u8))]])), (786173211477001113278846424824441125484439448885443952663, (.carry [.tmp 0 false [(.own 10000033 5 (.int .u8))]])), (973235296300952332985092462126850959089279117844399446512003522254296450108546615302, (.carry [.tmp 6 false [(.dat (.int .i64))], .tmp 0 false [(.dat (.int .i64))], .tmp 5 false [(.own 10000025 5 (.int .u8))]])), (206090590349426979839369917189178294398992894888625819526889985, (.carry [.tmp 0 false [(.dat (.int .i64))]])), (54025411716560186203011787571639954806929593437683926834057048228353, (.carry [.tmp 0 false [(.dat (.int .i64))], .tmp 5 false [(.own 10000032 5 (.int .u8))]])), (7251168014861288167425188885084151968208768687169646241785370035595830888454, (.carry [.tmp 6 false [(.dat (.int .i64))], .tmp 0 false [(.dat (.int .i64))], .tmp 5 false [(.own 10000031 5 (.int .u8))]])), (786173211477001113278846424824441125484439448885443953175, (.carry [.tmp 0 false [(.own 10000038 5 (.int .u8))]])), (206090590349426979839369917189178294398992894888625819661107713, (.carry [.tmp 0 false [(.dat (.int .i64))]])), (54025411716560186203011787571639954806929593437683926869241420317185, (.carry [.tmp 0 false [(.dat (.int .i64))], .tmp 5 false [(.own 10000036 5 (.int .u8))]])), (7251168014861288167425188885084151968208768687169646246507736518465476102150, (.carry [.tmp 6 false [(.dat (.int .i64))], .tmp 0 false [(.dat (.int .i64))], .tmp 5 false [(.own 10000034 5 (.int .u8))]]))]
noncomputable def dialtoneref22_EncodeAct : (Int × ((List UInt8) × ((List UInt8) × (Int × (Bool × ((List ((List UInt8) × (Int × Int))) × (Int × ((List UInt8) × (Int × (List (List UInt8))))))))))) → Option ((List Int) × Int) := fun (a1, (a2, (a3, (a4, (a5, (a6, (a7, (a8, (a9, a10))))))))) =>
 bindO (dialtoneref22_Formed (a2, (a3, (a4, (a5, (a6, (a7, (a8, (a9, a10))))))))) fun x11 =>
 bif (!x11) then
 some (([] : List Int), (2 : Int))
 else
 bindO (dialtoneref22_within (a1, ((0 : Int), (1099511627776 : Int)))) fun x12 =>
 bif (!x12) then
 some (([] : List Int), (2 : Int))
 else
 joinO (joinO (bif (decide (a1 < (0 : Int))) then
 some (Sum.inl (Go.IntKind.wrap .i64 (a1 + (4294967296 : Int))))
 else
 some (Sum.inl a1)) fun v14 =>
 joinO (loopO (fun (v15, (v16, v17)) =>
 bif (decide (v15 < (8 : Int))) then
 bindO (some (Int.tmod v16 (256 : Int))) fun x18 =>
 bif ((decide ((List.length v17) ≤ (List.length v17))) && (decide ((1 = 0) ∨ ((List.length (List.take (List.length v17) v17)) ≠ 0)))) then 
 bif (decide (((List.length (((Go.IntKind.wrap .u8 x18) :: ([] : List Int)) ++ (List.take (List.length v17) v17))) * 1) ≤ 140737488355328)) then 
 bindO (some (((Go.IntKind.wrap .u8 x18) :: ([] : List Int)) ++ (List.take (List.length v17) v17))) fun x20 =>
 bif (decide ((List.length x20) ≤ (List.length x20))) then 
 some (Sum.inl ((Go.IntKind.wrap .i64 (v15 + (1 : Int))), ((Go.IntKind.wrap .i64 (Int.tdiv v16 (256 : Int))), (List.take (List.length x20) x20))))
 else none
 else none
 else none
 else
 outO (bif (decide ((List.length v17) ≤ (List.length v17))) then 
 some (Sum.inl (v16, (List.take (List.length v17) v17)))
 else none)) ((0 : Int), (v14, ([] : List Int)))) fun (v23, v24) =>
 bif (decide ((List.length v24) ≤ (List.length v24))) then 
 some (Sum.inl (List.take (List.length v24) v24))
 else none) fun v25 =>
 joinO (joinO (bif (decide ((((List.length a2) : Nat) : Int) < (0 : Int))) then
 some (Sum.inl (Go.IntKind.wrap .i64 ((((List.length a2) : Nat) : Int) + (4294967296 : Int))))
 else
 some (Sum.inl (((List.length a2) : Nat) : Int))) fun v27 =>
 joinO (loopO (fun (v28, (v29, v30)) =>
 bif (decide (v28 < (2 : Int))) then
 bindO (some (Int.tmod v29 (256 : Int))) fun x31 =>
 bif ((decide ((List.length v30) ≤ (List.length v30))) && (decide ((1 = 0) ∨ ((List.length (List.take (List.length v30) v30)) ≠ 0)))) then 
 bif (decide (((List.length (((Go.IntKind.wrap .u8 x31) :: ([] : List Int)) ++ (List.take (List.length v30) v30))) * 1) ≤ 140737488355328)) then 
 bindO (some (((Go.IntKind.wrap .u8 x31) :: ([] : List Int)) ++ (List.take (List.length v30) v30))) fun x33 =>
 bif (decide ((List.length x33) ≤ (List.length x33))) then 
 some (Sum.inl ((Go.IntKind.wrap .i64 (v28 + (1 : Int))), ((Go.IntKind.wrap .i64 (Int.tdiv v29 (256 : Int))), (List.take (List.length x33) x33))))
 else none
 else none
 else none
 else
 outO (bif (decide ((List.length v30) ≤ (List.length v30))) then 
 some (Sum.inl (v29, (List.take (List.length v30) v30)))
 else none)) ((0 : Int), (v27, ([] : List Int)))) fun (v36, v37) =>
 bif (decide ((List.length v37) ≤ (List.length v37))) then 
 some (Sum.inl (List.take (List.length v37) v37))
 else none) fun v38 =>
 bif (decide ((List.length v38) ≤ (List.length v38))) then 
 bif (decide (((List.length ((List.take (List.length v38) v38) ++ (List.map (fun (x39 : UInt8) => (((UInt8.toNat x39) : Nat) : Int)) a2))) * 1) ≤ 140737488355328)) then 
 bindO (some ((List.take (List.length v38) v38) ++ (List.map (fun (x41 : UInt8) => (((UInt8.toNat x41) : Nat) : Int)) a2))) fun x40 =>
 bif ((decide ((List.length x40) ≤ (List.length x40))) && (decide ((List.length v25) ≤ (List.length v25)))) then 
 bif (decide (((List.length ((List.take (List.length v25) v25) ++ (List.take (List.length x40) x40))) * 1) ≤ 140737488355328)) then 
 bindO (some ((List.take (List.length v25) v25) ++ (List.take (List.length x40) x40))) fun x42 =>
 joinO (joinO (bif (decide ((((List.length a3) : Nat) : Int) < (0 : Int))) then
 some (Sum.inl (Go.IntKind.wrap .i64 ((((List.length a3) : Nat) : Int) + (4294967296 : Int))))
 else
 some (Sum.inl (((List.length a3) : Nat) : Int))) fun v44 =>
 joinO (loopO (fun (v45, (v46, v47)) =>
 bif (decide (v45 < (2 : Int))) then
 bindO (some (Int.tmod v46 (256 : Int))) fun x48 =>
 bif ((decide ((List.length v47) ≤ (List.length v47))) && (decide ((1 = 0) ∨ ((List.length (List.take (List.length v47) v47)) ≠ 0)))) then 
 bif (decide (((List.length (((Go.IntKind.wrap .u8 x48) :: ([] : List Int)) ++ (List.take (List.length v47) v47))) * 1) ≤ 140737488355328)) then 
 bindO (some (((Go.IntKind.wrap .u8 x48) :: ([] : List Int)) ++ (List.take (List.length v47) v47))) fun x50 =>
 bif (decide ((List.length x50) ≤ (List.length x50))) then 
 some (Sum.inl ((Go.IntKind.wrap .i64 (v45 + (1 : Int))), ((Go.IntKind.wrap .i64 (Int.tdiv v46 (256 : Int))), (List.take (List.length x50) x50))))
 else none
 else none
 else none
 else
 outO (bif (decide ((List.length v47) ≤ (List.length v47))) then 
 some (Sum.inl (v46, (List.take (List.length v47) v47)))
 else none)) ((0 : Int), (v44, ([] : List Int)))) fun (v53, v54) =>
 bif (decide ((List.length v54) ≤ (List.length v54))) then 
 some (Sum.inl (List.take (List.length v54) v54))
 else none) fun v55 =>
 bif (decide ((List.length v55) ≤ (List.length v55))) then 
 bif (decide (((List.length ((List.take (List.length v55) v55) ++ (List.map (fun (x56 : UInt8) => (((UInt8.toNat x56) : Nat) : Int)) a3))) * 1) ≤ 140737488355328)) then 
 bindO (some ((List.take (List.length v55) v55) ++ (List.map (fun (x58 : UInt8) => (((UInt8.toNat x58) : Nat) : Int)) a3))) fun x57 =>
 bif ((decide ((List.length x57) ≤ (List.length x57))) && (decide ((List.length x42) ≤ (List.length x42)))) then 
 bif (decide (((List.length ((List.take (List.length x42) x42) ++ (List.take (List.length x57) x57))) * 1) ≤ 140737488355328)) then 
 bindO (some ((List.take (List.length x42) x42) ++ (List.take (List.length x57) x57))) fun x59 =>
 joinO (joinO (bif (decide (a4 < (0 : Int))) then
 some (Sum.inl (Go.IntKind.wrap .i64 (a4 + (4294967296 : Int))))
 else
 some (Sum.inl a4)) fun v61 =>
 joinO (loopO (fun (v62, (v63, v64)) =>
 bif (decide (v62 < (4 : Int))) then
 bindO (some (Int.tmod v63 (256 : Int))) fun x65 =>
 bif ((decide ((List.length v64) ≤ (List.length v64))) && (decide ((1 = 0) ∨ ((List.length (List.take (List.length v64) v64)) ≠ 0)))) then 
 bif (decide (((List.length (((Go.IntKind.wrap .u8 x65) :: ([] : List Int)) ++ (List.take (List.length v64) v64))) * 1) ≤ 140737488355328)) then 
 bindO (some (((Go.IntKind.wrap .u8 x65) :: ([] : List Int)) ++ (List.take (List.length v64) v64))) fun x67 =>
 bif (decide ((List.length x67) ≤ (List.length x67))) then 
 some (Sum.inl ((Go.IntKind.wrap .i64 (v62 + (1 : Int))), ((Go.IntKind.wrap .i64 (Int.tdiv v63 (256 : Int))), (List.take (List.length x67) x67))))
 else none
 else none
 else none
 else
 outO (bif (decide ((List.length v64) ≤ (List.length v64))) then 
 some (Sum.inl (v63, (List.take (List.length v64) v64)))
 else none)) ((0 : Int), (v61, ([] : List Int)))) fun (v70, v71) =>
 bif (decide ((List.length v71) ≤ (List.length v71))) then 
 some (Sum.inl (List.take (List.length v71) v71))
 else none) fun v72 =>
 bif ((decide ((List.length v72) ≤ (List.length v72))) && (decide ((List.length x59) ≤ (List.length x59)))) then 
 bif (decide (((List.length ((List.take (List.length x59) x59) ++ (List.take (List.length v72) v72))) * 1) ≤ 140737488355328)) then 
 bindO (some ((List.take (List.length x59) x59) ++ (List.take (List.length v72) v72))) fun x73 =>
 joinO (bif a5 then
 bif (decide ((List.length x73) ≤ (List.length x73))) then 
 bif (decide (((List.length ((List.take (List.length x73) x73) ++ ((1 : Int) :: ([] : List Int)))) * 1) ≤ 140737488355328)) then 
 bindO (some ((List.take (List.length x73) x73) ++ ((1 : Int) :: ([] : List Int)))) fun x74 =>
 bif (decide ((List.length x74) ≤ (List.length x74))) then 
 some (Sum.inl (List.take (List.length x74) x74))
 else none
 else none
 else none
 else
 bif (decide ((List.length x73) ≤ (List.length x73))) then 
 bif (decide (((List.length ((List.take (List.length x73) x73) ++ ((0 : Int) :: ([] : List Int)))) * 1) ≤ 140737488355328)) then 
 bindO (some ((List.take (List.length x73) x73) ++ ((0 : Int) :: ([] : List Int)))) fun x75 =>
 bif (decide ((List.length x75) ≤ (List.length x75))) then 
 some (Sum.inl (List.take (List.length x75) x75))
 else none
 else none
 else none) fun v76 =>
 joinO (joinO (bif (decide (a7 < (0 : Int))) then
 some (Sum.inl (Go.IntKind.wrap .i64 (a7 + (4294967296 : Int))))
 else
 some (Sum.inl a7)) fun v78 =>
 joinO (loopO (fun (v79, (v80, v81)) =>
 bif (decide (v79 < (4 : Int))) then
 bindO (some (Int.tmod v80 (256 : Int))) fun x82 =>
 bif ((decide ((List.length v81) ≤ (List.length v81))) && (decide ((1 = 0) ∨ ((List.length (List.take (List.length v81) v81)) ≠ 0)))) then 
 bif (decide (((List.length (((Go.IntKind.wrap .u8 x82) :: ([] : List Int)) ++ (List.take (List.length v81) v81))) * 1) ≤ 140737488355328)) then 
 bindO (some (((Go.IntKind.wrap .u8 x82) :: ([] : List Int)) ++ (List.take (List.length v81) v81))) fun x84 =>
 bif (decide ((List.length x84) ≤ (List.length x84))) then 
 some (Sum.inl ((Go.IntKind.wrap .i64 (v79 + (1 : Int))), ((Go.IntKind.wrap .i64 (Int.tdiv v80 (256 : Int))), (List.take (List.length x84) x84))))
 else none
 else none
 else none
 else
 outO (bif (decide ((List.length v81) ≤ (List.length v81))) then 
 some (Sum.inl (v80, (List.take (List.length v81) v81)))
 else none)) ((0 : Int), (v78, ([] : List Int)))) fun (v87, v88) =>
 bif (decide ((List.length v88) ≤ (List.length v88))) then 
 some (Sum.inl (List.take (List.length v88) v88))
 else none) fun v89 =>
 bif ((decide ((List.length v89) ≤ (List.length v89))) && (decide ((List.length v76) ≤ (List.length v76)))) then 
 bif (decide (((List.length ((List.take (List.length v76) v76) ++ (List.take (List.length v89) v89))) * 1) ≤ 140737488355328)) then 
 bindO (some ((List.take (List.length v76) v76) ++ (List.take (List.length v89) v89))) fun x90 =>
 joinO (joinO (bif (decide ((((List.length a8) : Nat) : Int) < (0 : Int))) then
 some (Sum.inl (Go.IntKind.wrap .i64 ((((List.length a8) : Nat) : Int) + (4294967296 : Int))))
 else
 some (Sum.inl (((List.length a8) : Nat) : Int))) fun v92 =>
 joinO (loopO (fun (v93, (v94, v95)) =>
 bif (decide (v93 < (2 : Int))) then
 bindO (some (Int.tmod v94 (256 : Int))) fun x96 =>
 bif ((decide ((List.length v95) ≤ (List.length v95))) && (decide ((1 = 0) ∨ ((List.length (List.take (List.length v95) v95)) ≠ 0)))) then 
 bif (decide (((List.length (((Go.IntKind.wrap .u8 x96) :: ([] : List Int)) ++ (List.take (List.length v95) v95))) * 1) ≤ 140737488355328)) then 
 bindO (some (((Go.IntKind.wrap .u8 x96) :: ([] : List Int)) ++ (List.take (List.length v95) v95))) fun x98 =>
 bif (decide ((List.length x98) ≤ (List.length x98))) then 
 some (Sum.inl ((Go.IntKind.wrap .i64 (v93 + (1 : Int))), ((Go.IntKind.wrap .i64 (Int.tdiv v94 (256 : Int))), (List.take (List.length x98) x98))))
 else none
 else none
 else none
 else
 outO (bif (decide ((List.length v95) ≤ (List.length v95))) then 
 some (Sum.inl (v94, (List.take (List.length v95) v95)))
 else none)) ((0 : Int), (v92, ([] : List Int)))) fun (v101, v102) =>
 bif (decide ((List.length v102) ≤ (List.length v102))) then 
 some (Sum.inl (List.take (List.length v102) v102))
 else none) fun v103 =>
 bif (decide ((List.length v103) ≤ (List.length v103))) then 
 bif (decide (((List.length ((List.take (List.length v103) v103) ++ (List.map (fun (x104 : UInt8) => (((UInt8.toNat x104) : Nat) : Int)) a8))) * 1) ≤ 140737488355328)) then 
 bindO (some ((List.take (List.length v103) v103) ++ (List.map (fun (x106 : UInt8) => (((UInt8.toNat x106) : Nat) : Int)) a8))) fun x105 =>
 bif ((decide ((List.length x105) ≤ (List.length x105))) && (decide ((List.length x90) ≤ (List.length x90)))) then 
 bif (decide (((List.length ((List.take (List.length x90) x90) ++ (List.take (List.length x105) x105))) * 1) ≤ 140737488355328)) then 
 bindO (some ((List.take (List.length x90) x90) ++ (List.take (List.length x105) x105))) fun x107 =>
 joinO (joinO (bif (decide (a9 < (0 : Int))) then
 some (Sum.inl (Go.IntKind.wrap .i64 (a9 + (4294967296 : Int))))
 else
 some (Sum.inl a9)) fun v109 =>
 joinO (loopO (fun (v110, (v111, v112)) =>
 bif (decide (v110 < (4 : Int))) then
 bindO (some (Int.tmod v111 (256 : Int))) fun x113 =>
 bif ((decide ((List.length v112) ≤ (List.length v112))) && (decide ((1 = 0) ∨ ((List.length (List.take (List.length v112) v112)) ≠ 0)))) then 
 bif (decide (((List.length (((Go.IntKind.wrap .u8 x113) :: ([] : List Int)) ++ (List.take (List.length v112) v112))) * 1) ≤ 140737488355328)) then 
 bindO (some (((Go.IntKind.wrap .u8 x113) :: ([] : List Int)) ++ (List.take (List.length v112) v112))) fun x115 =>
 bif (decide ((List.length x115) ≤ (List.length x115))) then 
 some (Sum.inl ((Go.IntKind.wrap .i64 (v110 + (1 : Int))), ((Go.IntKind.wrap .i64 (Int.tdiv v111 (256 : Int))), (List.take (List.length x115) x115))))
 else none
 else none
 else none
 else
 outO (bif (decide ((List.length v112) ≤ (List.length v112))) then 
 some (Sum.inl (v111, (List.take (List.length v112) v112)))
 else none)) ((0 : Int), (v109, ([] : List Int)))) fun (v118, v119) =>
 bif (decide ((List.length v119) ≤ (List.length v119))) then 
 some (Sum.inl (List.take (List.length v119) v119))
 else none) fun v120 =>
 bif ((decide ((List.length v120) ≤ (List.length v120))) && (decide ((List.length x107) ≤ (List.length x107)))) then 
 bif (decide (((List.length ((List.take (List.length x107) x107) ++ (List.take (List.length v120) v120))) * 1) ≤ 140737488355328)) then 
 bindO (some ((List.take (List.length x107) x107) ++ (List.take (List.length v120) v120))) fun x121 =>
 bindO (some (Go.IntKind.wrap .u8 (((List.length a6) : Nat) : Int))) fun x122 =>
 bif (decide ((List.length x121) ≤ (List.length x121))) then 
 bif (decide (((List.length ((List.take (List.length x121) x121) ++ (x122 :: ([] : List Int)))) * 1) ≤ 140737488355328)) then 
 bindO (some ((List.take (List.length x121) x121) ++ (x122 :: ([] : List Int)))) fun x123 =>
 joinO (bif (decide ((List.length x123) ≤ (List.length x123))) then 
 loopO (fun (v124, v125) =>
 bif (decide (v124 < (((List.length a6) : Nat) : Int))) then
 bif (decide (((0 : Int) ≤ v124) ∧ (v124 < (((List.length a6) : Nat) : Int)))) then 
 bindO a6[(Int.toNat v124)]? fun x126 =>
 joinO (joinO (bif (decide ((((List.length x126.1) : Nat) : Int) < (0 : Int))) then
 some (Sum.inl (Go.IntKind.wrap .i64 ((((List.length x126.1) : Nat) : Int) + (4294967296 : Int))))
 else
 some (Sum.inl (((List.length x126.1) : Nat) : Int))) fun v128 =>
 joinO (loopO (fun (v129, (v130, v131)) =>
 bif (decide (v129 < (2 : Int))) then
 bindO (some (Int.tmod v130 (256 : Int))) fun x132 =>
 bif ((decide ((List.length v131) ≤ (List.length v131))) && (decide ((1 = 0) ∨ ((List.length (List.take (List.length v131) v131)) ≠ 0)))) then 
 bif (decide (((List.length (((Go.IntKind.wrap .u8 x132) :: ([] : List Int)) ++ (List.take (List.length v131) v131))) * 1) ≤ 140737488355328)) then 
 bindO (some (((Go.IntKind.wrap .u8 x132) :: ([] : List Int)) ++ (List.take (List.length v131) v131))) fun x134 =>
 bif (decide ((List.length x134) ≤ (List.length x134))) then 
 some (Sum.inl ((Go.IntKind.wrap .i64 (v129 + (1 : Int))), ((Go.IntKind.wrap .i64 (Int.tdiv v130 (256 : Int))), (List.take (List.length x134) x134))))
 else none
 else none
 else none
 else
 outO (bif (decide ((List.length v131) ≤ (List.length v131))) then 
 some (Sum.inl (v130, (List.take (List.length v131) v131)))
 else none)) ((0 : Int), (v128, ([] : List Int)))) fun (v137, v138) =>
 bif (decide ((List.length v138) ≤ (List.length v138))) then 
 some (Sum.inl (List.take (List.length v138) v138))
 else none) fun v139 =>
 bif (decide ((List.length v139) ≤ (List.length v139))) then 
 bif (decide (((List.length ((List.take (List.length v139) v139) ++ (List.map (fun (x140 : UInt8) => (((UInt8.toNat x140) : Nat) : Int)) x126.1))) * 1) ≤ 140737488355328)) then 
 bindO (some ((List.take (List.length v139) v139) ++ (List.map (fun (x142 : UInt8) => (((UInt8.toNat x142) : Nat) : Int)) x126.1))) fun x141 =>
 bif ((decide ((List.length x141) ≤ (List.length x141))) && (decide ((List.length v125) ≤ (List.length v125)))) then 
 bif (decide (((List.length ((List.take (List.length v125) v125) ++ (List.take (List.length x141) x141))) * 1) ≤ 140737488355328)) then 
 bindO (some ((List.take (List.length v125) v125) ++ (List.take (List.length x141) x141))) fun x143 =>
 bif (decide (((0 : Int) ≤ v124) ∧ (v124 < (((List.length a6) : Nat) : Int)))) then 
 bindO a6[(Int.toNat v124)]? fun x144 =>
 joinO (joinO (bif (decide (x144.2.1 < (0 : Int))) then
 some (Sum.inl (Go.IntKind.wrap .i64 (x144.2.1 + (4294967296 : Int))))
 else
 some (Sum.inl x144.2.1)) fun v146 =>
 joinO (loopO (fun (v147, (v148, v149)) =>
 bif (decide (v147 < (2 : Int))) then
 bindO (some (Int.tmod v148 (256 : Int))) fun x150 =>
 bif ((decide ((List.length v149) ≤ (List.length v149))) && (decide ((1 = 0) ∨ ((List.length (List.take (List.length v149) v149)) ≠ 0)))) then 
 bif (decide (((List.length (((Go.IntKind.wrap .u8 x150) :: ([] : List Int)) ++ (List.take (List.length v149) v149))) * 1) ≤ 140737488355328)) then 
 bindO (some (((Go.IntKind.wrap .u8 x150) :: ([] : List Int)) ++ (List.take (List.length v149) v149))) fun x152 =>
 bif (decide ((List.length x152) ≤ (List.length x152))) then 
 some (Sum.inl ((Go.IntKind.wrap .i64 (v147 + (1 : Int))), ((Go.IntKind.wrap .i64 (Int.tdiv v148 (256 : Int))), (List.take (List.length x152) x152))))
 else none
 else none
 else none
 else
 outO (bif (decide ((List.length v149) ≤ (List.length v149))) then 
 some (Sum.inl (v148, (List.take (List.length v149) v149)))
 else none)) ((0 : Int), (v146, ([] : List Int)))) fun (v155, v156) =>
 bif (decide ((List.length v156) ≤ (List.length v156))) then 
 some (Sum.inl (List.take (List.length v156) v156))
 else none) fun v157 =>
 bif ((decide ((List.length v157) ≤ (List.length v157))) && (decide ((List.length x143) ≤ (List.length x143)))) then 
 bif (decide (((List.length ((List.take (List.length x143) x143) ++ (List.take (List.length v157) v157))) * 1) ≤ 140737488355328)) then 
 bindO (some ((List.take (List.length x143) x143) ++ (List.take (List.length v157) v157))) fun x158 =>
 bif (decide (((0 : Int) ≤ v124) ∧ (v124 < (((List.length a6) : Nat) : Int)))) then 
 bindO a6[(Int.toNat v124)]? fun x159 =>
 joinO (joinO (bif (decide (x159.2.2 < (0 : Int))) then
 some (Sum.inl (Go.IntKind.wrap .i64 (x159.2.2 + (4294967296 : Int))))
 else
 some (Sum.inl x159.2.2)) fun v161 =>
 joinO (loopO (fun (v162, (v163, v164)) =>
 bif (decide (v162 < (4 : Int))) then
 bindO (some (Int.tmod v163 (256 : Int))) fun x165 =>
 bif ((decide ((List.length v164) ≤ (List.length v164))) && (decide ((1 = 0) ∨ ((List.length (List.take (List.length v164) v164)) ≠ 0)))) then 
 bif (decide (((List.length (((Go.IntKind.wrap .u8 x165) :: ([] : List Int)) ++ (List.take (List.length v164) v164))) * 1) ≤ 140737488355328)) then 
 bindO (some (((Go.IntKind.wrap .u8 x165) :: ([] : List Int)) ++ (List.take (List.length v164) v164))) fun x167 =>
 bif (decide ((List.length x167) ≤ (List.length x167))) then 
 some (Sum.inl ((Go.IntKind.wrap .i64 (v162 + (1 : Int))), ((Go.IntKind.wrap .i64 (Int.tdiv v163 (256 : Int))), (List.take (List.length x167) x167))))
 else none
 else none
 else none
 else
 outO (bif (decide ((List.length v164) ≤ (List.length v164))) then 
 some (Sum.inl (v163, (List.take (List.length v164) v164)))
 else none)) ((0 : Int), (v161, ([] : List Int)))) fun (v170, v171) =>
 bif (decide ((List.length v171) ≤ (List.length v171))) then 
 some (Sum.inl (List.take (List.length v171) v171))
 else none) fun v172 =>
 bif ((decide ((List.length v172) ≤ (List.length v172))) && (decide ((List.length x158) ≤ (List.length x158)))) then 
 bif (decide (((List.length ((List.take (List.length x158) x158) ++ (List.take (List.length v172) v172))) * 1) ≤ 140737488355328)) then 
 bindO (some ((List.take (List.length x158) x158) ++ (List.take (List.length v172) v172))) fun x173 =>
 bif (decide ((List.length x173) ≤ (List.length x173))) then 
 some (Sum.inl ((Go.IntKind.wrap .i64 (v124 + (1 : Int))), (List.take (List.length x173) x173)))
 else none
 else none
 else none
 else none
 else none
 else none
 else none
 else none
 else none
 else none
 else none
 else none
 else
 outO (bif (decide ((List.length v125) ≤ (List.length v125))) then 
 some (Sum.inl (List.take (List.length v125) v125))
 else none)) ((0 : Int), (List.take (List.length x123) x123))
 else none) fun v175 =>
 bindO (some (Go.IntKind.wrap .u8 (((List.length a10) : Nat) : Int))) fun x176 =>
 bif (decide ((List.length v175) ≤ (List.length v175))) then 
 bif (decide (((List.length ((List.take (List.length v175) v175) ++ (x176 :: ([] : List Int)))) * 1) ≤ 140737488355328)) then 
 bindO (some ((List.take (List.length v175) v175) ++ (x176 :: ([] : List Int)))) fun x177 =>
 joinO (bif (decide ((List.length x177) ≤ (List.length x177))) then 
 loopO (fun (v178, v179) =>
 bif (decide (v178 < (((List.length a10) : Nat) : Int))) then
 bif (decide (((0 : Int) ≤ v178) ∧ (v178 < (((List.length a10) : Nat) : Int)))) then 
 bindO a10[(Int.toNat v178)]? fun x180 =>
 joinO (joinO (bif (decide ((((List.length x180) : Nat) : Int) < (0 : Int))) then
 some (Sum.inl (Go.IntKind.wrap .i64 ((((List.length x180) : Nat) : Int) + (4294967296 : Int))))
 else
 some (Sum.inl (((List.length x180) : Nat) : Int))) fun v182 =>
 joinO (loopO (fun (v183, (v184, v185)) =>
 bif (decide (v183 < (2 : Int))) then
 bindO (some (Int.tmod v184 (256 : Int))) fun x186 =>
 bif ((decide ((List.length v185) ≤ (List.length v185))) && (decide ((1 = 0) ∨ ((List.length (List.take (List.length v185) v185)) ≠ 0)))) then 
 bif (decide (((List.length (((Go.IntKind.wrap .u8 x186) :: ([] : List Int)) ++ (List.take (List.length v185) v185))) * 1) ≤ 140737488355328)) then 
 bindO (some (((Go.IntKind.wrap .u8 x186) :: ([] : List Int)) ++ (List.take (List.length v185) v185))) fun x188 =>
 bif (decide ((List.length x188) ≤ (List.length x188))) then 
 some (Sum.inl ((Go.IntKind.wrap .i64 (v183 + (1 : Int))), ((Go.IntKind.wrap .i64 (Int.tdiv v184 (256 : Int))), (List.take (List.length x188) x188))))
 else none
 else none
 else none
 else
 outO (bif (decide ((List.length v185) ≤ (List.length v185))) then 
 some (Sum.inl (v184, (List.take (List.length v185) v185)))
 else none)) ((0 : Int), (v182, ([] : List Int)))) fun (v191, v192) =>
 bif (decide ((List.length v192) ≤ (List.length v192))) then 
 some (Sum.inl (List.take (List.length v192) v192))
 else none) fun v193 =>
 bif (decide ((List.length v193) ≤ (List.length v193))) then 
 bif (decide (((List.length ((List.take (List.length v193) v193) ++ (List.map (fun (x194 : UInt8) => (((UInt8.toNat x194) : Nat) : Int)) x180))) * 1) ≤ 140737488355328)) then 
 bindO (some ((List.take (List.length v193) v193) ++ (List.map (fun (x196 : UInt8) => (((UInt8.toNat x196) : Nat) : Int)) x180))) fun x195 =>
 bif ((decide ((List.length x195) ≤ (List.length x195))) && (decide ((List.length v179) ≤ (List.length v179)))) then 
 bif (decide (((List.length ((List.take (List.length v179) v179) ++ (List.take (List.length x195) x195))) * 1) ≤ 140737488355328)) then 
 bindO (some ((List.take (List.length v179) v179) ++ (List.take (List.length x195) x195))) fun x197 =>
 bif (decide ((List.length x197) ≤ (List.length x197))) then 
 some (Sum.inl ((Go.IntKind.wrap .i64 (v178 + (1 : Int))), (List.take (List.length x197) x197)))
 else none
 else none
 else none
 else none
 else none
 else none
 else
 outO (bif (decide ((List.length v179) ≤ (List.length v179))) then 
 some (Sum.inl (List.take (List.length v179) v179))
 else none)) ((0 : Int), (List.take (List.length x177) x177))
 else none) fun v199 =>
 bif (decide ((((List.length v199) : Nat) : Int) > (4096 : Int))) then
 some (([] : List Int), (4 : Int))
 else
 bif (decide ((List.length v199) ≤ (List.length v199))) then 
 some ((List.take (List.length v199) v199), (0 : Int))
 else none
 else none
 else none
 else none
 else none
 else none
 else none
 else none
 else none
 else none
 else none
 else none
 else none
 else none
 else none
 else none
 else none
 else none
 else none
 else none
 else none
 else none
 else none
noncomputable def cons23 : List (Nat × CE) := [(9, ⟨[], riB, (fun _ => some true)⟩), (34, ⟨[(.tmp 0 false [(.dat (.int .i64))]), (.tmp 1 false [(.dat (.int .i64))]), (.tmp 2 false [(.dat (.int .i64))])], [(.tmp 0 false [(.dat .bool)])], registrar_within⟩), (10, ⟨[(.tmp 0 true [(.dat (.int .i64)), (.dat (.int .i64)), (.dat (.int .i64)), (.dat (.int .i64))])], [(.tmp 0 false [(.dat .bool)])], registrar_Valid⟩), (12, ⟨[(.tmp 0 true [(.dat .str), (.dat .str), (.dat (.int .i64)), (.dat .bool), (.dat (.list (.pair .str (.pair (.int .i64) (.int .i64))))), (.dat (.int .i64)), (.dat .str), (.dat (.int .i64)), (.dat (.list .str))])], [(.tmp 0 false [(.dat .bool)])], registrar_Formed⟩), (33, ⟨[(.tmp 0 false [(.dat (.int .i64))]), (.tmp 1 false [(.dat (.int .i64))]), (.tmp 2 false [(.dat (.int .i64))])], [(.tmp 0 false [(.dat .bool)])], dialtoneref22_within⟩), (11, ⟨[(.tmp 0 true [(.dat (.int .i64)), (.dat (.int .i64)), (.dat (.int .i64)), (.dat (.int .i64))])], [(.tmp 0 false [(.dat .bool)])], dialtoneref22_Valid⟩), (39, ⟨[(.tmp 0 true [(.dat .str), (.dat .str), (.dat (.int .i64)), (.dat .bool), (.dat (.list (.pair .str (.pair (.int .i64) (.int .i64))))), (.dat (.int .i64)), (.dat .str), (.dat (.int .i64)), (.dat (.list .str))])], [(.tmp 0 false [(.dat .bool)])], dialtoneref22_contacts⟩), (13, ⟨[(.tmp 0 true [(.dat .str), (.dat .str), (.dat (.int .i64)), (.dat .bool), (.dat (.list (.pair .str (.pair (.int .i64) (.int .i64))))), (.dat (.int .i64)), (.dat .str), (.dat (.int .i64)), (.dat (.list .str))])], [(.tmp 0 false [(.dat .bool)])], dialtoneref22_Formed⟩), (8, ⟨[(.tmp 0 true [(.dat .str), (.dat .str), (.dat (.int .i64)), (.dat .bool), (.dat (.list (.pair .str (.pair (.int .i64) (.int .i64))))), (.dat (.int .i64)), (.dat .str), (.dat (.int .i64)), (.dat (.list .str))])], [(.tmp 0 false [(.dat .bool)])], dialtonelaw22_few⟩), (3, ⟨[(.tmp 0 true [(.dat (.int .i64)), (.dat (.int .i64)), (.dat (.int .i64)), (.dat (.int .i64))]), (.tmp 1 true [(.dat .str), (.dat .str), (.dat (.int .i64)), (.dat .bool), (.dat (.list (.pair .str (.pair (.int .i64) (.int .i64))))), (.dat (.int .i64)), (.dat .str), (.dat (.int .i64)), (.dat (.list .str))])], [(.tmp 0 false [(.dat .bool)])], dialtonelaw22_RegistrarForms⟩), (22, ⟨[(.tmp 0 false [(.dat (.int .i64))]), (.tmp 1 true [(.dat .str), (.dat .str), (.dat (.int .i64)), (.dat .bool), (.dat (.list (.pair .str (.pair (.int .i64) (.int .i64))))), (.dat (.int .i64)), (.dat .str), (.dat (.int .i64)), (.dat (.list .str))])], [(.tmp 0 false [(.dat (.list (.int .u8)))]), (.tmp 1 false [(.dat (.int .u8))])], registrar_EncodeAct⟩), (60, ⟨[(.tmp 0 false [(.dat (.int .u64))])], [(.tmp 0 false [(.dat (.int .i64))])], registrar_signed⟩), (24, ⟨[(.tmp 0 false [(.dat (.list (.int .u8)))])], [(.tmp 0 false [(.dat (.int .i64))]), (.tmp 1 true [(.dat .str), (.dat .str), (.dat (.int .i64)), (.dat .bool), (.dat (.list (.pair .str (.pair (.int .i64) (.int .i64))))), (.dat (.int .i64)), (.dat .str), (.dat (.int .i64)), (.dat (.list .str))]), (.tmp 2 false [(.dat (.int .u8))])], registrar_DecodeAct⟩)]
theorem cons23_ok : ConL Try.prog cons23 := ⟨con_true (by kernel_rfl) lives_o, con34, con10, con12, con33, con11, con39, con13, con8, con3, con22, con60, con24, trivial⟩
theorem con23 : ConOk Try.prog 23 ⟨[(.tmp 0 false [(.dat (.int .i64))]), (.tmp 1 true [(.dat .str), (.dat .str), (.dat (.int .i64)), (.dat .bool), (.dat (.list (.pair .str (.pair (.int .i64) (.int .i64))))), (.dat (.int .i64)), (.dat .str), (.dat (.int .i64)), (.dat (.list .str))])], [(.tmp 0 false [(.dat (.list (.int .u8)))]), (.tmp 1 false [(.dat (.int .u8))])], dialtoneref22_EncodeAct⟩ :=
  tree_ok (plan := planOf plan23) (eg := egNo) KK tabL_ok (conOf_ok cons23_ok) Try.func23 (by kernel_rfl) (by kernel_rfl) 10000 (fun a r h => Eq.trans (show _ = dialtoneref22_EncodeAct a from by kernel_rfl) h)
def plan25 : List (Nat × PL) := [(18049651735527937, (.carry [.tmp 8 false [(.dat (.int .i64))], .mix 5 [(.dat (.list (.int .u8))), (.dat .bool)]])), (2422583247133816450712593, (.carry [.tmp 0 false [(.dat (.list (.int .u8)))], .mix 5 [(.dat (.list (.int .u8))), (.dat .bool)]])), (2422583247133816450713105, (.carry [.tmp 0 false [(.dat (.int .i64))], .mix 5 [(.dat (.list (.int .u8))), (.dat .bool)]])), (635065662736647214773263663122, (.carry [.tmp 0 false [(.dat (.int .i64))], .mix 5 [(.dat (.list (.int .u8))), (.dat .bool)]])), (325153619321163355983736933187602, (.carry [.tmp 0 false [(.dat (.list (.int .u8)))], .mix 5 [(.dat (.list (.int .u8))), (.dat .bool)]])), (85237070383327051504395484009192488978, (.carry [.tmp 0 false [(.dat (.list (.int .u8)))], .mix 5 [(.dat (.list (.int .u8))), (.dat .bool)]])), (635065662736647214773263663123, (.carry [.tmp 0 false [(.dat (.list (.int .u8)))], .mix 5 [(.dat (.list (.int .u8))), (.dat .bool)]])), (166478653092435638263673309792305665, (.carry [.tmp 6 false [(.dat (.int .i64))]])), (43641380036263450370250487812706554610177, (.carry [.tmp 6 false [(.dat (.int .i64))]])), (22344386578566885353980096574563418103875590, (.carry [.tmp 7 false [(.dat (.int .i64))], .tmp 6 false [(.dat (.int .i64))]])), (5857446875251837918135779265113163290485748664326, (.carry [.tmp 7 false [(.dat (.int .i64))], .tmp 6 false [(.dat (.int .i64))]])), (325153619321163373997929284239378, (.carry [.tmp 0 false [(.dat (.int .i64))], .mix 5 [(.dat (.list (.int .u8))), (.dat .bool)]])), (43641380036263450374816345235275523555346, (.carry [.tmp 0 false [(.dat (.list (.int .u8)))], .mix 5 [(.dat (.list (.int .u8))), (.dat .bool)]])), (325153619321163373997929284239379, (.carry [.tmp 0 false [(.dat (.list (.int .u8)))], .mix 5 [(.dat (.list (.int .u8))), (.dat .bool)]])), (22344386578566886591905968760461068060590593, (.carry [.tmp 6 false [(.dat (.int .i64))]])), (2999012800128941014399282316668060787545835596679174, (.carry [.tmp 7 false [(.dat (.int .i64))], .tmp 6 false [(.dat (.int .i64))]])), (1240362622532514091484053521, (.carry [.tmp 0 false [(.dat (.int .i64))], .mix 5 [(.dat (.list (.int .u8))), (.dat .bool)]])), (166478653092435647486973811819282450, (.carry [.tmp 0 false [(.dat (.list (.int .u8)))], .mix 5 [(.dat (.list (.int .u8))), (.dat .bool)]])), (85237070383327051513330591651472867841, (.carry [.tmp 6 false [(.dat (.int .i64))]])), (11440325928226245935058193724356456175129331718, (.carry [.tmp 7 false [(.dat (.int .i64))], .tmp 6 false [(.dat (.int .i64))]])), (635065662736647214839835656209, (.carry [.tmp 0 false [(.dat (.int .i64))], .mix 5 [(.dat (.list (.int .u8))), (.dat .bool)]])), (85237070383327051513330625669761335314, (.carry [.tmp 0 false [(.dat (.list (.int .u8)))], .mix 5 [(.dat (.list (.int .u8))), (.dat .bool)]])), (43641380036263450374825280342917803934209, (.carry [.tmp 6 false [(.dat (.int .i64))]])), (5857446875251837918749797524589488534798859503622, (.carry [.tmp 7 false [(.dat (.int .i64))], .tmp 6 false [(.dat (.int .i64))]])), (166478653092435647486973878391275537, (.carry [.tmp 0 false [(.dat (.int .i64))], .mix 5 [(.dat (.list (.int .u8))), (.dat .bool)]])), (22344386578566886591910543553025297598382098, (.carry [.tmp 0 false [(.dat (.list (.int .u8)))], .mix 5 [(.dat (.list (.int .u8))), (.dat .bool)]])), (11440325928226245935058198299148952370371887617, (.carry [.tmp 6 false [(.dat (.int .i64))]])), (1535494553666017799372746923485236720731529270891120646, (.carry [.tmp 7 false [(.dat (.int .i64))], .tmp 6 false [(.dat (.int .i64))]])), (11440325928226245935058198299148986388660355090, (.carry [.tmp 0 false [(.dat (.int .i64))], .mix 5 [(.dat (.list (.int .u8))), (.dat .bool)]])), (1535494553666017799372746923485241286588917823853297682, (.carry [.tmp 0 false [(.dat (.list (.int .u8)))], .mix 5 [(.dat (.list (.int .u8))), (.dat .bool)]])), (11440325928226245935058198299148986388660355091, (.carry [.tmp 0 false [(.dat (.list (.int .u8)))], .mix 5 [(.dat (.list (.int .u8))), (.dat .bool)]])), (786173211477001113278846424824443538733525925812888666625, (.carry [.tmp 6 false [(.dat (.int .i64))]])), (105518382258906613677757397600859610633093847191702469951222974470, (.carry [.tmp 7 false [(.dat (.int .i64))], .tmp 6 false [(.dat (.int .i64))]])), (43641380036263450374825280377002664394769, (.carry [.tmp 0 false [(.dat (.int .i64))], .mix 5 [(.dat (.list (.int .u8))), (.dat .bool)]])), (5857446875251837918749797529164281065012390526994, (.carry [.tmp 0 false [(.dat (.list (.int .u8)))], .mix 5 [(.dat (.list (.int .u8))), (.dat .bool)]])), (2999012800128941014399896334932111905286343950074369, (.carry [.tmp 6 false [(.dat (.int .i64))]])), (402520684276224569998769369510115094169284274405527104260102, (.carry [.tmp 7 false [(.dat (.int .i64))], .tmp 6 false [(.dat (.int .i64))]])), (22344386578566886591910543553025364170375185, (.carry [.tmp 0 false [(.dat (.int .i64))], .mix 5 [(.dat (.list (.int .u8))), (.dat .bool)]])), (2999012800128941014399896334932111905320362238541842, (.carry [.tmp 0 false [(.dat (.list (.int .u8)))], .mix 5 [(.dat (.list (.int .u8))), (.dat .bool)]])), (22344386578566886591910543553025364170375681, (.carry [.mix 7 [(.dat .str), (.dat .str), (.dat (.int .i64)), (.dat .bool), (.own 10000004 65 (.pair .str (.pair (.int .i64) (.int .i64)))), (.dat (.int .i64)), (.dat .str), (.dat (.int .i64)), .nil], .mix 5 [(.dat (.list (.int .u8))), (.dat .bool)]])), (1535494553666017799372746923485241295524025466133676545, (.carry [.tmp 6 false [(.dat (.int .i64))]])), (2999012800128941014399896334932111905320428676319238, (.carry [.tmp 11 false [(.dat (.int .i64))], .mix 7 [(.dat .str), (.dat .str), (.dat (.int .i64)), (.dat .bool), (.own 10000003 65 (.pair .str (.pair (.int .i64) (.int .i64)))), (.dat (.int .i64)), (.dat .str), (.dat (.int .i64)), .nil], .mix 5 [(.dat (.list (.int .u8))), (.dat .bool)]])), (5857446875251837918749797529164281065078962520081, (.carry [.tmp 0 false [(.dat (.int .i64))], .mix 5 [(.dat (.list (.int .u8))), (.dat .bool)]])), (206090590349426979839369917189178928217011267478603010022836230, (.carry [.tmp 7 false [(.dat (.int .i64))], .tmp 6 false [(.dat (.int .i64))]])), (786173211477001113278846424824443543308318490042426458130, (.carry [.tmp 0 false [(.dat (.list (.int .u8)))], .mix 5 [(.dat (.list (.int .u8))), (.dat .bool)]])), (5857446875251837918749797529164281065078962520577, (.carry [.mix 7 [(.dat .str), (.dat .str), (.dat (.int .i64)), (.dat .bool), (.own 10000006 65 (.pair .str (.pair (.int .i64) (.int .i64)))), (.dat (.int .i64)), (.dat .str), (.dat (.int .i64)), (.own 10000002 9 .str)], .mix 5 [(.dat (.list (.int .u8))), (.dat .bool)], .dead 10000004])), (14162437529025953452002322041180027868550633498476566587776198921850978322, (.carry [.tmp 0 false [(.dat (.int .i64))], .mix 5 [(.dat (.list (.int .u8))), (.dat .bool)]])), (402520684276224569998769369510115094173859066901722346816001, (.carry [.tmp 6 false [(.dat (.int .i64))]])), (786173211477001113278846424824443543308318490108864235526, (.carry [.tmp 15 false [(.dat (.int .i64))], .mix 7 [(.dat .str), (.dat .str), (.dat (.int .i64)), (.dat .bool), (.own 10000005 65 (.pair .str (.pair (.int .i64) (.int .i64)))), (.dat (.int .i64)), (.dat .str), (.dat (.int .i64)), (.own 10000001 9 .str)], .mix 5 [(.dat (.list (.int .u8))), (.dat .bool)], .dead 10000004])), (1900850188087797525361508715091505779493548681126216228652033991766887864956354578, (.carry [.tmp 0 false [(.dat (.list (.int .u8)))], .mix 5 [(.dat (.list (.int .u8))), (.dat .bool)]])), (14162437529025953452002322041180027868550633498476566587776198921850978323, (.carry [.tmp 0 false [(.dat (.list (.int .u8)))], .mix 5 [(.dat (.list (.int .u8))), (.dat .bool)]])), (54025411716560186203011787571640120958521400951749172676471554312198, (.carry [.tmp 7 false [(.dat (.int .i64))], .tmp 6 false [(.dat (.int .i64))]])), (973235296300952332985092462126850959100696924736622709069841403784646586857653797377, (.carry [.tmp 6 false [(.dat (.int .i64))]])), (3712598023608979541721696709163097225573337433975599061081696563452636570058770, (.carry [.tmp 0 false [(.dat (.int .i64))], .mix 5 [(.dat (.list (.int .u8))), (.dat .bool)]])), (130625430278920626369558568136591983525116464454736498404559106536305866170988952094379345926, (.carry [.tmp 7 false [(.dat (.int .i64))], .tmp 6 false [(.dat (.int .i64))]])), (54025411716560186203011787571640120958521398538500086165528102830097, (.carry [.tmp 0 false [(.dat (.int .i64))], .mix 5 [(.dat (.list (.int .u8))), (.dat .bool)]])), (498296471706087594488367340608947691059556847765554913417318535132020716043000936136722, (.carry [.tmp 0 false [(.dat (.list (.int .u8)))], .mix 5 [(.dat (.list (.int .u8))), (.dat .bool)]])), (3712598023608979541721696709163097225573337433975599061081696563452636570058771, (.carry [.tmp 0 false [(.dat (.list (.int .u8)))], .mix 5 [(.dat (.list (.int .u8))), (.dat .bool)]])), (7251168014861288167425188885084174268697924351220002092941413882005989621778, (.carry [.tmp 0 false [(.dat (.list (.int .u8)))], .mix 5 [(.dat (.list (.int .u8))), (.dat .bool)]])), (27661010798878815335942035236679741930762956051712044116750388649263121, (.carry [.tmp 0 false [(.dat (.int .i64))], .mix 5 [(.dat (.list (.int .u8))), (.dat .bool)]])), (255127793513516848378044078391781217822493106055964115669667089987594606614016479302255105, (.carry [.tmp 6 false [(.dat (.int .i64))]])), (3712598023608979541721696709163097225573337267824641071586003907587066686603777, (.carry [.tmp 6 false [(.dat (.int .i64))]])), (3712598023608979541721696709163097225573337267824641071586003907621084975071250, (.carry [.tmp 0 false [(.dat (.list (.int .u8)))], .mix 5 [(.dat (.list (.int .u8))), (.dat .bool)]])), (34242672795037368679021561285598768929208131990494544454711915334506496284787064806507705335547910, (.carry [.tmp 7 false [(.dat (.int .i64))], .tmp 6 false [(.dat (.int .i64))]])), (498296471706087594488367340608947691059556825465150827043758801075458052860446851205126, (.carry [.tmp 7 false [(.dat (.int .i64))], .tmp 6 false [(.dat (.int .i64))]])), (1900850188087797525361508715091505779493548681126216228652034000701995507236733441, (.carry [.tmp 6 false [(.dat (.int .i64))]])), (255127793513516848378044078391781217822493094638157223446404506152972242047521920458688518, (.carry [.tmp 7 false [(.dat (.int .i64))], .tmp 6 false [(.dat (.int .i64))]]))]
noncomputable def dialtoneref22_DecodeAct : (List Int) → Option (Int × (((List UInt8) × ((List UInt8) × (Int × (Bool × ((List ((List UInt8) × (Int × Int))) × (Int × ((List UInt8) × (Int × (List (List UInt8)))))))))) × Int)) := fun a1 =>
 bif (decide ((((List.length a1) : Nat) : Int) ≥ (8 : Int))) then
 bif (decide (((0 : Int) ≤ (0 : Int)) ∧ ((0 : Int) < (((List.length a1) : Nat) : Int)))) then 
 bindO a1[0]? fun x2 =>
 joinO (bif (decide (x2 ≥ (128 : Int))) then
 joinO (bif (decide ((8 : Int) > (((List.length a1) : Nat) : Int))) then
 some (Sum.inl (([] : List Int), (a1, Bool.true)))
 else
 bif (decide (((0 : Int) ≤ (8 : Int)) ∧ ((8 : Int) ≤ (((List.length a1) : Nat) : Int)))) then 
 bif (decide (((0 : Int) ≤ (8 : Int)) ∧ ((8 : Int) ≤ (((List.length a1) : Nat) : Int)))) then 
 some (Sum.inl ((List.take 8 a1), ((List.drop 8 a1), Bool.false)))
 else none
 else none) fun (v5, (v6, v7)) =>
 some (Sum.inl ((0 : Int), (v6, v7)))
 else
 joinO (joinO (bif (decide ((8 : Int) > (((List.length a1) : Nat) : Int))) then
 some (Sum.inl (([] : List Int), (a1, Bool.true)))
 else
 bif (decide (((0 : Int) ≤ (8 : Int)) ∧ ((8 : Int) ≤ (((List.length a1) : Nat) : Int)))) then 
 bif (decide (((0 : Int) ≤ (8 : Int)) ∧ ((8 : Int) ≤ (((List.length a1) : Nat) : Int)))) then 
 some (Sum.inl ((List.take 8 a1), ((List.drop 8 a1), Bool.false)))
 else none
 else none) fun (v10, (v11, v12)) =>
 joinO (loopO (fun (v13, v14) =>
 bif (decide (v13 < (((List.length v10) : Nat) : Int))) then
 bif (decide (((0 : Int) ≤ v13) ∧ (v13 < (((List.length v10) : Nat) : Int)))) then 
 bindO v10[(Int.toNat v13)]? fun x16 =>
 some (Sum.inl ((Go.IntKind.wrap .i64 (v13 + (1 : Int))), (Go.IntKind.wrap .i64 ((Go.IntKind.wrap .i64 ((256 : Int) * v14)) + (Go.IntKind.wrap .i64 x16)))))
 else none
 else
 outO (some (Sum.inl v14))) ((0 : Int), (0 : Int))) fun v20 =>
 some (Sum.inl (v20, (v11, v12)))) fun (v21, (v22, v23)) =>
 some (Sum.inl (v21, (v22, v23)))) fun (v24, (v25, v26)) =>
 joinO (joinO (bif v26 then
 some (Sum.inl (([] : List Int), (v25, Bool.true)))
 else
 bif (decide ((2 : Int) > (((List.length v25) : Nat) : Int))) then
 some (Sum.inl (([] : List Int), (v25, Bool.true)))
 else
 bif (decide (((0 : Int) ≤ (2 : Int)) ∧ ((2 : Int) ≤ (((List.length v25) : Nat) : Int)))) then 
 bif (decide (((0 : Int) ≤ (2 : Int)) ∧ ((2 : Int) ≤ (((List.length v25) : Nat) : Int)))) then 
 some (Sum.inl ((List.take 2 v25), ((List.drop 2 v25), v26)))
 else none
 else none) fun (v29, (v30, v31)) =>
 joinO (loopO (fun (v32, v33) =>
 bif (decide (v32 < (((List.length v29) : Nat) : Int))) then
 bif (decide (((0 : Int) ≤ v32) ∧ (v32 < (((List.length v29) : Nat) : Int)))) then 
 bindO v29[(Int.toNat v32)]? fun x35 =>
 some (Sum.inl ((Go.IntKind.wrap .i64 (v32 + (1 : Int))), (Go.IntKind.wrap .i64 ((Go.IntKind.wrap .i64 ((256 : Int) * v33)) + (Go.IntKind.wrap .i64 x35)))))
 else none
 else
 outO (some (Sum.inl v33))) ((0 : Int), (0 : Int))) fun v39 =>
 some (Sum.inl (v39, (v30, v31)))) fun (v40, (v41, v42)) =>
 joinO (bif v42 then
 some (Sum.inl (([] : List Int), (v41, Bool.true)))
 else
 bif (decide (v40 > (((List.length v41) : Nat) : Int))) then
 some (Sum.inl (([] : List Int), (v41, Bool.true)))
 else
 bif (decide (((0 : Int) ≤ v40) ∧ (v40 ≤ (((List.length v41) : Nat) : Int)))) then 
 bif (decide (((0 : Int) ≤ v40) ∧ (v40 ≤ (((List.length v41) : Nat) : Int)))) then 
 some (Sum.inl ((List.take (Int.toNat v40) v41), ((List.drop (Int.toNat v40) v41), v42)))
 else none
 else none) fun (v45, (v46, v47)) =>
 joinO (joinO (bif v47 then
 some (Sum.inl (([] : List Int), (v46, Bool.true)))
 else
 bif (decide ((2 : Int) > (((List.length v46) : Nat) : Int))) then
 some (Sum.inl (([] : List Int), (v46, Bool.true)))
 else
 bif (decide (((0 : Int) ≤ (2 : Int)) ∧ ((2 : Int) ≤ (((List.length v46) : Nat) : Int)))) then 
 bif (decide (((0 : Int) ≤ (2 : Int)) ∧ ((2 : Int) ≤ (((List.length v46) : Nat) : Int)))) then 
 some (Sum.inl ((List.take 2 v46), ((List.drop 2 v46), v47)))
 else none
 else none) fun (v50, (v51, v52)) =>
 joinO (loopO (fun (v53, v54) =>
 bif (decide (v53 < (((List.length v50) : Nat) : Int))) then
 bif (decide (((0 : Int) ≤ v53) ∧ (v53 < (((List.length v50) : Nat) : Int)))) then 
 bindO v50[(Int.toNat v53)]? fun x56 =>
 some (Sum.inl ((Go.IntKind.wrap .i64 (v53 + (1 : Int))), (Go.IntKind.wrap .i64 ((Go.IntKind.wrap .i64 ((256 : Int) * v54)) + (Go.IntKind.wrap .i64 x56)))))
 else none
 else
 outO (some (Sum.inl v54))) ((0 : Int), (0 : Int))) fun v60 =>
 some (Sum.inl (v60, (v51, v52)))) fun (v61, (v62, v63)) =>
 joinO (bif v63 then
 some (Sum.inl (([] : List Int), (v62, Bool.true)))
 else
 bif (decide (v61 > (((List.length v62) : Nat) : Int))) then
 some (Sum.inl (([] : List Int), (v62, Bool.true)))
 else
 bif (decide (((0 : Int) ≤ v61) ∧ (v61 ≤ (((List.length v62) : Nat) : Int)))) then 
 bif (decide (((0 : Int) ≤ v61) ∧ (v61 ≤ (((List.length v62) : Nat) : Int)))) then 
 some (Sum.inl ((List.take (Int.toNat v61) v62), ((List.drop (Int.toNat v61) v62), v63)))
 else none
 else none) fun (v66, (v67, v68)) =>
 joinO (joinO (bif v68 then
 some (Sum.inl (([] : List Int), (v67, Bool.true)))
 else
 bif (decide ((4 : Int) > (((List.length v67) : Nat) : Int))) then
 some (Sum.inl (([] : List Int), (v67, Bool.true)))
 else
 bif (decide (((0 : Int) ≤ (4 : Int)) ∧ ((4 : Int) ≤ (((List.length v67) : Nat) : Int)))) then 
 bif (decide (((0 : Int) ≤ (4 : Int)) ∧ ((4 : Int) ≤ (((List.length v67) : Nat) : Int)))) then 
 some (Sum.inl ((List.take 4 v67), ((List.drop 4 v67), v68)))
 else none
 else none) fun (v71, (v72, v73)) =>
 joinO (loopO (fun (v74, v75) =>
 bif (decide (v74 < (((List.length v71) : Nat) : Int))) then
 bif (decide (((0 : Int) ≤ v74) ∧ (v74 < (((List.length v71) : Nat) : Int)))) then 
 bindO v71[(Int.toNat v74)]? fun x77 =>
 some (Sum.inl ((Go.IntKind.wrap .i64 (v74 + (1 : Int))), (Go.IntKind.wrap .i64 ((Go.IntKind.wrap .i64 ((256 : Int) * v75)) + (Go.IntKind.wrap .i64 x77)))))
 else none
 else
 outO (some (Sum.inl v75))) ((0 : Int), (0 : Int))) fun v81 =>
 bif (decide (v81 > (2147483647 : Int))) then
 some (Sum.inl ((Go.IntKind.wrap .i64 (v81 - (4294967296 : Int))), (v72, v73)))
 else
 some (Sum.inl (v81, (v72, v73)))) fun (v83, (v84, v85)) =>
 joinO (joinO (bif v85 then
 some (Sum.inl (([] : List Int), (v84, Bool.true)))
 else
 bif (decide ((1 : Int) > (((List.length v84) : Nat) : Int))) then
 some (Sum.inl (([] : List Int), (v84, Bool.true)))
 else
 bif (decide (((0 : Int) ≤ (1 : Int)) ∧ ((1 : Int) ≤ (((List.length v84) : Nat) : Int)))) then 
 bif (decide (((0 : Int) ≤ (1 : Int)) ∧ ((1 : Int) ≤ (((List.length v84) : Nat) : Int)))) then 
 some (Sum.inl ((List.take 1 v84), ((List.drop 1 v84), v85)))
 else none
 else none) fun (v88, (v89, v90)) =>
 joinO (loopO (fun (v91, v92) =>
 bif (decide (v91 < (((List.length v88) : Nat) : Int))) then
 bif (decide (((0 : Int) ≤ v91) ∧ (v91 < (((List.length v88) : Nat) : Int)))) then 
 bindO v88[(Int.toNat v91)]? fun x94 =>
 some (Sum.inl ((Go.IntKind.wrap .i64 (v91 + (1 : Int))), (Go.IntKind.wrap .i64 ((Go.IntKind.wrap .i64 ((256 : Int) * v92)) + (Go.IntKind.wrap .i64 x94)))))
 else none
 else
 outO (some (Sum.inl v92))) ((0 : Int), (0 : Int))) fun v98 =>
 some (Sum.inl (v98, (v89, v90)))) fun (v99, (v100, v101)) =>
 joinO (joinO (bif v101 then
 some (Sum.inl (([] : List Int), (v100, Bool.true)))
 else
 bif (decide ((4 : Int) > (((List.length v100) : Nat) : Int))) then
 some (Sum.inl (([] : List Int), (v100, Bool.true)))
 else
 bif (decide (((0 : Int) ≤ (4 : Int)) ∧ ((4 : Int) ≤ (((List.length v100) : Nat) : Int)))) then 
 bif (decide (((0 : Int) ≤ (4 : Int)) ∧ ((4 : Int) ≤ (((List.length v100) : Nat) : Int)))) then 
 some (Sum.inl ((List.take 4 v100), ((List.drop 4 v100), v101)))
 else none
 else none) fun (v104, (v105, v106)) =>
 joinO (loopO (fun (v107, v108) =>
 bif (decide (v107 < (((List.length v104) : Nat) : Int))) then
 bif (decide (((0 : Int) ≤ v107) ∧ (v107 < (((List.length v104) : Nat) : Int)))) then 
 bindO v104[(Int.toNat v107)]? fun x110 =>
 some (Sum.inl ((Go.IntKind.wrap .i64 (v107 + (1 : Int))), (Go.IntKind.wrap .i64 ((Go.IntKind.wrap .i64 ((256 : Int) * v108)) + (Go.IntKind.wrap .i64 x110)))))
 else none
 else
 outO (some (Sum.inl v108))) ((0 : Int), (0 : Int))) fun v114 =>
 bif (decide (v114 > (2147483647 : Int))) then
 some (Sum.inl ((Go.IntKind.wrap .i64 (v114 - (4294967296 : Int))), (v105, v106)))
 else
 some (Sum.inl (v114, (v105, v106)))) fun (v116, (v117, v118)) =>
 joinO (joinO (bif v118 then
 some (Sum.inl (([] : List Int), (v117, Bool.true)))
 else
 bif (decide ((2 : Int) > (((List.length v117) : Nat) : Int))) then
 some (Sum.inl (([] : List Int), (v117, Bool.true)))
 else
 bif (decide (((0 : Int) ≤ (2 : Int)) ∧ ((2 : Int) ≤ (((List.length v117) : Nat) : Int)))) then 
 bif (decide (((0 : Int) ≤ (2 : Int)) ∧ ((2 : Int) ≤ (((List.length v117) : Nat) : Int)))) then 
 some (Sum.inl ((List.take 2 v117), ((List.drop 2 v117), v118)))
 else none
 else none) fun (v121, (v122, v123)) =>
 joinO (loopO (fun (v124, v125) =>
 bif (decide (v124 < (((List.length v121) : Nat) : Int))) then
 bif (decide (((0 : Int) ≤ v124) ∧ (v124 < (((List.length v121) : Nat) : Int)))) then 
 bindO v121[(Int.toNat v124)]? fun x127 =>
 some (Sum.inl ((Go.IntKind.wrap .i64 (v124 + (1 : Int))), (Go.IntKind.wrap .i64 ((Go.IntKind.wrap .i64 ((256 : Int) * v125)) + (Go.IntKind.wrap .i64 x127)))))
 else none
 else
 outO (some (Sum.inl v125))) ((0 : Int), (0 : Int))) fun v131 =>
 some (Sum.inl (v131, (v122, v123)))) fun (v132, (v133, v134)) =>
 joinO (bif v134 then
 some (Sum.inl (([] : List Int), (v133, Bool.true)))
 else
 bif (decide (v132 > (((List.length v133) : Nat) : Int))) then
 some (Sum.inl (([] : List Int), (v133, Bool.true)))
 else
 bif (decide (((0 : Int) ≤ v132) ∧ (v132 ≤ (((List.length v133) : Nat) : Int)))) then 
 bif (decide (((0 : Int) ≤ v132) ∧ (v132 ≤ (((List.length v133) : Nat) : Int)))) then 
 some (Sum.inl ((List.take (Int.toNat v132) v133), ((List.drop (Int.toNat v132) v133), v134)))
 else none
 else none) fun (v137, (v138, v139)) =>
 joinO (joinO (bif v139 then
 some (Sum.inl (([] : List Int), (v138, Bool.true)))
 else
 bif (decide ((4 : Int) > (((List.length v138) : Nat) : Int))) then
 some (Sum.inl (([] : List Int), (v138, Bool.true)))
 else
 bif (decide (((0 : Int) ≤ (4 : Int)) ∧ ((4 : Int) ≤ (((List.length v138) : Nat) : Int)))) then 
 bif (decide (((0 : Int) ≤ (4 : Int)) ∧ ((4 : Int) ≤ (((List.length v138) : Nat) : Int)))) then 
 some (Sum.inl ((List.take 4 v138), ((List.drop 4 v138), v139)))
 else none
 else none) fun (v142, (v143, v144)) =>
 joinO (loopO (fun (v145, v146) =>
 bif (decide (v145 < (((List.length v142) : Nat) : Int))) then
 bif (decide (((0 : Int) ≤ v145) ∧ (v145 < (((List.length v142) : Nat) : Int)))) then 
 bindO v142[(Int.toNat v145)]? fun x148 =>
 some (Sum.inl ((Go.IntKind.wrap .i64 (v145 + (1 : Int))), (Go.IntKind.wrap .i64 ((Go.IntKind.wrap .i64 ((256 : Int) * v146)) + (Go.IntKind.wrap .i64 x148)))))
 else none
 else
 outO (some (Sum.inl v146))) ((0 : Int), (0 : Int))) fun v152 =>
 bif (decide (v152 > (2147483647 : Int))) then
 some (Sum.inl ((Go.IntKind.wrap .i64 (v152 - (4294967296 : Int))), (v143, v144)))
 else
 some (Sum.inl (v152, (v143, v144)))) fun (v154, (v155, v156)) =>
 joinO (joinO (bif v156 then
 some (Sum.inl (([] : List Int), (v155, Bool.true)))
 else
 bif (decide ((1 : Int) > (((List.length v155) : Nat) : Int))) then
 some (Sum.inl (([] : List Int), (v155, Bool.true)))
 else
 bif (decide (((0 : Int) ≤ (1 : Int)) ∧ ((1 : Int) ≤ (((List.length v155) : Nat) : Int)))) then 
 bif (decide (((0 : Int) ≤ (1 : Int)) ∧ ((1 : Int) ≤ (((List.length v155) : Nat) : Int)))) then 
 some (Sum.inl ((List.take 1 v155), ((List.drop 1 v155), v156)))
 else none
 else none) fun (v159, (v160, v161)) =>
 joinO (loopO (fun (v162, v163) =>
 bif (decide (v162 < (((List.length v159) : Nat) : Int))) then
 bif (decide (((0 : Int) ≤ v162) ∧ (v162 < (((List.length v159) : Nat) : Int)))) then 
 bindO v159[(Int.toNat v162)]? fun x165 =>
 some (Sum.inl ((Go.IntKind.wrap .i64 (v162 + (1 : Int))), (Go.IntKind.wrap .i64 ((Go.IntKind.wrap .i64 ((256 : Int) * v163)) + (Go.IntKind.wrap .i64 x165)))))
 else none
 else
 outO (some (Sum.inl v163))) ((0 : Int), (0 : Int))) fun v169 =>
 some (Sum.inl (v169, (v160, v161)))) fun (v170, (v171, v172)) =>
 joinO (loopO (fun (v173, ((v174, (v175, (v176, (v177, (v178, (v179, (v180, v181))))))), (v182, v183))) =>
 bif (decide (v173 < v170)) then
 bif (!v183) then
 joinO (joinO (bif v183 then
 some (Sum.inl (([] : List Int), (v182, Bool.true)))
 else
 bif (decide ((2 : Int) > (((List.length v182) : Nat) : Int))) then
 some (Sum.inl (([] : List Int), (v182, Bool.true)))
 else
 bif (decide (((0 : Int) ≤ (2 : Int)) ∧ ((2 : Int) ≤ (((List.length v182) : Nat) : Int)))) then 
 bif (decide (((0 : Int) ≤ (2 : Int)) ∧ ((2 : Int) ≤ (((List.length v182) : Nat) : Int)))) then 
 some (Sum.inl ((List.take 2 v182), ((List.drop 2 v182), v183)))
 else none
 else none) fun (v186, (v187, v188)) =>
 joinO (loopO (fun (v189, v190) =>
 bif (decide (v189 < (((List.length v186) : Nat) : Int))) then
 bif (decide (((0 : Int) ≤ v189) ∧ (v189 < (((List.length v186) : Nat) : Int)))) then 
 bindO v186[(Int.toNat v189)]? fun x192 =>
 some (Sum.inl ((Go.IntKind.wrap .i64 (v189 + (1 : Int))), (Go.IntKind.wrap .i64 ((Go.IntKind.wrap .i64 ((256 : Int) * v190)) + (Go.IntKind.wrap .i64 x192)))))
 else none
 else
 outO (some (Sum.inl v190))) ((0 : Int), (0 : Int))) fun v196 =>
 some (Sum.inl (v196, (v187, v188)))) fun (v197, (v198, v199)) =>
 joinO (bif v199 then
 some (Sum.inl (([] : List Int), (v198, Bool.true)))
 else
 bif (decide (v197 > (((List.length v198) : Nat) : Int))) then
 some (Sum.inl (([] : List Int), (v198, Bool.true)))
 else
 bif (decide (((0 : Int) ≤ v197) ∧ (v197 ≤ (((List.length v198) : Nat) : Int)))) then 
 bif (decide (((0 : Int) ≤ v197) ∧ (v197 ≤ (((List.length v198) : Nat) : Int)))) then 
 some (Sum.inl ((List.take (Int.toNat v197) v198), ((List.drop (Int.toNat v197) v198), v199)))
 else none
 else none) fun (v202, (v203, v204)) =>
 joinO (joinO (bif v204 then
 some (Sum.inl (([] : List Int), (v203, Bool.true)))
 else
 bif (decide ((2 : Int) > (((List.length v203) : Nat) : Int))) then
 some (Sum.inl (([] : List Int), (v203, Bool.true)))
 else
 bif (decide (((0 : Int) ≤ (2 : Int)) ∧ ((2 : Int) ≤ (((List.length v203) : Nat) : Int)))) then 
 bif (decide (((0 : Int) ≤ (2 : Int)) ∧ ((2 : Int) ≤ (((List.length v203) : Nat) : Int)))) then 
 some (Sum.inl ((List.take 2 v203), ((List.drop 2 v203), v204)))
 else none
 else none) fun (v207, (v208, v209)) =>
 joinO (loopO (fun (v210, v211) =>
 bif (decide (v210 < (((List.length v207) : Nat) : Int))) then
 bif (decide (((0 : Int) ≤ v210) ∧ (v210 < (((List.length v207) : Nat) : Int)))) then 
 bindO v207[(Int.toNat v210)]? fun x213 =>
 some (Sum.inl ((Go.IntKind.wrap .i64 (v210 + (1 : Int))), (Go.IntKind.wrap .i64 ((Go.IntKind.wrap .i64 ((256 : Int) * v211)) + (Go.IntKind.wrap .i64 x213)))))
 else none
 else
 outO (some (Sum.inl v211))) ((0 : Int), (0 : Int))) fun v217 =>
 some (Sum.inl (v217, (v208, v209)))) fun (v218, (v219, v220)) =>
 joinO (joinO (bif v220 then
 some (Sum.inl (([] : List Int), (v219, Bool.true)))
 else
 bif (decide ((4 : Int) > (((List.length v219) : Nat) : Int))) then
 some (Sum.inl (([] : List Int), (v219, Bool.true)))
 else
 bif (decide (((0 : Int) ≤ (4 : Int)) ∧ ((4 : Int) ≤ (((List.length v219) : Nat) : Int)))) then 
 bif (decide (((0 : Int) ≤ (4 : Int)) ∧ ((4 : Int) ≤ (((List.length v219) : Nat) : Int)))) then 
 some (Sum.inl ((List.take 4 v219), ((List.drop 4 v219), v220)))
 else none
 else none) fun (v223, (v224, v225)) =>
 joinO (loopO (fun (v226, v227) =>
 bif (decide (v226 < (((List.length v223) : Nat) : Int))) then
 bif (decide (((0 : Int) ≤ v226) ∧ (v226 < (((List.length v223) : Nat) : Int)))) then 
 bindO v223[(Int.toNat v226)]? fun x229 =>
 some (Sum.inl ((Go.IntKind.wrap .i64 (v226 + (1 : Int))), (Go.IntKind.wrap .i64 ((Go.IntKind.wrap .i64 ((256 : Int) * v227)) + (Go.IntKind.wrap .i64 x229)))))
 else none
 else
 outO (some (Sum.inl v227))) ((0 : Int), (0 : Int))) fun v233 =>
 bif (decide (v233 > (2147483647 : Int))) then
 some (Sum.inl ((Go.IntKind.wrap .i64 (v233 - (4294967296 : Int))), (v224, v225)))
 else
 some (Sum.inl (v233, (v224, v225)))) fun (v235, (v236, v237)) =>
 bif (decide ((List.length v178) ≤ (List.length v178))) then 
 bif (decide (((List.length ((List.take (List.length v178) v178) ++ (((bytesU v202), (v218, v235)) :: ([] : List ((List UInt8) × (Int × Int)))))) * 32) ≤ 140737488355328)) then 
 bindO (some ((List.take (List.length v178) v178) ++ (((bytesU v202), (v218, v235)) :: ([] : List ((List UInt8) × (Int × Int)))))) fun x238 =>
 bif (decide ((List.length x238) ≤ (List.length x238))) then 
 some (Sum.inl ((Go.IntKind.wrap .i64 (v173 + (1 : Int))), ((v174, (v175, (v176, (v177, ((List.take (List.length x238) x238), (v179, (v180, v181))))))), (v236, v237))))
 else none
 else none
 else none
 else
 outO (bif (decide ((List.length v178) ≤ (List.length v178))) then 
 some (Sum.inl ((v174, (v175, (v176, (v177, ((List.take (List.length v178) v178), (v179, (v180, v181))))))), (v182, v183)))
 else none)
 else
 outO (bif (decide ((List.length v178) ≤ (List.length v178))) then 
 some (Sum.inl ((v174, (v175, (v176, (v177, ((List.take (List.length v178) v178), (v179, (v180, v181))))))), (v182, v183)))
 else none)) ((0 : Int), (((bytesU v45), ((bytesU v66), (v83, ((decide (v99 = (1 : Int))), (([] : List ((List UInt8) × (Int × Int))), (v116, ((bytesU v137), v154))))))), (v171, v172)))) fun ((v240, (v241, (v242, (v243, (v244, (v245, (v246, v247))))))), (v248, v249)) =>
 joinO (joinO (bif v249 then
 some (Sum.inl (([] : List Int), (v248, Bool.true)))
 else
 bif (decide ((1 : Int) > (((List.length v248) : Nat) : Int))) then
 some (Sum.inl (([] : List Int), (v248, Bool.true)))
 else
 bif (decide (((0 : Int) ≤ (1 : Int)) ∧ ((1 : Int) ≤ (((List.length v248) : Nat) : Int)))) then 
 bif (decide (((0 : Int) ≤ (1 : Int)) ∧ ((1 : Int) ≤ (((List.length v248) : Nat) : Int)))) then 
 some (Sum.inl ((List.take 1 v248), ((List.drop 1 v248), v249)))
 else none
 else none) fun (v252, (v253, v254)) =>
 joinO (loopO (fun (v255, v256) =>
 bif (decide (v255 < (((List.length v252) : Nat) : Int))) then
 bif (decide (((0 : Int) ≤ v255) ∧ (v255 < (((List.length v252) : Nat) : Int)))) then 
 bindO v252[(Int.toNat v255)]? fun x258 =>
 some (Sum.inl ((Go.IntKind.wrap .i64 (v255 + (1 : Int))), (Go.IntKind.wrap .i64 ((Go.IntKind.wrap .i64 ((256 : Int) * v256)) + (Go.IntKind.wrap .i64 x258)))))
 else none
 else
 outO (some (Sum.inl v256))) ((0 : Int), (0 : Int))) fun v262 =>
 some (Sum.inl (v262, (v253, v254)))) fun (v263, (v264, v265)) =>
 joinO (bif (decide ((List.length v244) ≤ (List.length v244))) then 
 loopO (fun (v266, ((v267, (v268, (v269, (v270, (v271, (v272, (v273, (v274, v275)))))))), (v276, v277))) =>
 bif (decide (v266 < v263)) then
 bif (!v277) then
 joinO (joinO (bif v277 then
 some (Sum.inl (([] : List Int), (v276, Bool.true)))
 else
 bif (decide ((2 : Int) > (((List.length v276) : Nat) : Int))) then
 some (Sum.inl (([] : List Int), (v276, Bool.true)))
 else
 bif (decide (((0 : Int) ≤ (2 : Int)) ∧ ((2 : Int) ≤ (((List.length v276) : Nat) : Int)))) then 
 bif (decide (((0 : Int) ≤ (2 : Int)) ∧ ((2 : Int) ≤ (((List.length v276) : Nat) : Int)))) then 
 some (Sum.inl ((List.take 2 v276), ((List.drop 2 v276), v277)))
 else none
 else none) fun (v280, (v281, v282)) =>
 joinO (loopO (fun (v283, v284) =>
 bif (decide (v283 < (((List.length v280) : Nat) : Int))) then
 bif (decide (((0 : Int) ≤ v283) ∧ (v283 < (((List.length v280) : Nat) : Int)))) then 
 bindO v280[(Int.toNat v283)]? fun x286 =>
 some (Sum.inl ((Go.IntKind.wrap .i64 (v283 + (1 : Int))), (Go.IntKind.wrap .i64 ((Go.IntKind.wrap .i64 ((256 : Int) * v284)) + (Go.IntKind.wrap .i64 x286)))))
 else none
 else
 outO (some (Sum.inl v284))) ((0 : Int), (0 : Int))) fun v290 =>
 some (Sum.inl (v290, (v281, v282)))) fun (v291, (v292, v293)) =>
 joinO (bif v293 then
 some (Sum.inl (([] : List Int), (v292, Bool.true)))
 else
 bif (decide (v291 > (((List.length v292) : Nat) : Int))) then
 some (Sum.inl (([] : List Int), (v292, Bool.true)))
 else
 bif (decide (((0 : Int) ≤ v291) ∧ (v291 ≤ (((List.length v292) : Nat) : Int)))) then 
 bif (decide (((0 : Int) ≤ v291) ∧ (v291 ≤ (((List.length v292) : Nat) : Int)))) then 
 some (Sum.inl ((List.take (Int.toNat v291) v292), ((List.drop (Int.toNat v291) v292), v293)))
 else none
 else none) fun (v296, (v297, v298)) =>
 bif (decide ((List.length v275) ≤ (List.length v275))) then 
 bif (decide (((List.length ((List.take (List.length v275) v275) ++ ((bytesU v296) :: ([] : List (List UInt8))))) * 16) ≤ 140737488355328)) then 
 bindO (some ((List.take (List.length v275) v275) ++ ((bytesU v296) :: ([] : List (List UInt8))))) fun x299 =>
 bif ((decide ((List.length v271) ≤ (List.length v271))) && (decide ((List.length x299) ≤ (List.length x299)))) then 
 some (Sum.inl ((Go.IntKind.wrap .i64 (v266 + (1 : Int))), ((v267, (v268, (v269, (v270, ((List.take (List.length v271) v271), (v272, (v273, (v274, (List.take (List.length x299) x299))))))))), (v297, v298))))
 else none
 else none
 else none
 else
 outO (bif ((decide ((List.length v271) ≤ (List.length v271))) && (decide ((List.length v275) ≤ (List.length v275)))) then 
 some (Sum.inl ((v267, (v268, (v269, (v270, ((List.take (List.length v271) v271), (v272, (v273, (v274, (List.take (List.length v275) v275))))))))), (v276, v277)))
 else none)
 else
 outO (bif ((decide ((List.length v271) ≤ (List.length v271))) && (decide ((List.length v275) ≤ (List.length v275)))) then 
 some (Sum.inl ((v267, (v268, (v269, (v270, ((List.take (List.length v271) v271), (v272, (v273, (v274, (List.take (List.length v275) v275))))))))), (v276, v277)))
 else none)) ((0 : Int), ((v240, (v241, (v242, (v243, ((List.take (List.length v244) v244), (v245, (v246, (v247, ([] : List (List UInt8)))))))))), (v264, v265)))
 else none) fun ((v301, (v302, (v303, (v304, (v305, (v306, (v307, (v308, v309)))))))), (v310, v311)) =>
 bif v311 then
 some ((0 : Int), ((([] : List UInt8), (([] : List UInt8), ((0 : Int), (Bool.false, (([] : List ((List UInt8) × (Int × Int))), ((0 : Int), (([] : List UInt8), ((0 : Int), ([] : List (List UInt8)))))))))), (6 : Int)))
 else
 bif (decide ((((List.length v310) : Nat) : Int) > (0 : Int))) then
 some ((0 : Int), ((([] : List UInt8), (([] : List UInt8), ((0 : Int), (Bool.false, (([] : List ((List UInt8) × (Int × Int))), ((0 : Int), (([] : List UInt8), ((0 : Int), ([] : List (List UInt8)))))))))), (5 : Int)))
 else
 bif (decide (v99 > (1 : Int))) then
 some ((0 : Int), ((([] : List UInt8), (([] : List UInt8), ((0 : Int), (Bool.false, (([] : List ((List UInt8) × (Int × Int))), ((0 : Int), (([] : List UInt8), ((0 : Int), ([] : List (List UInt8)))))))))), (5 : Int)))
 else
 bif (decide (x2 ≥ (128 : Int))) then
 some ((0 : Int), ((([] : List UInt8), (([] : List UInt8), ((0 : Int), (Bool.false, (([] : List ((List UInt8) × (Int × Int))), ((0 : Int), (([] : List UInt8), ((0 : Int), ([] : List (List UInt8)))))))))), (5 : Int)))
 else
 bif ((decide ((List.length v305) ≤ (List.length v305))) && (decide ((List.length v309) ≤ (List.length v309)))) then 
 bindO (dialtoneref22_Formed (v301, (v302, (v303, (v304, ((List.take (List.length v305) v305), (v306, (v307, (v308, (List.take (List.length v309) v309)))))))))) fun x312 =>
 bif (!x312) then
 some ((0 : Int), ((([] : List UInt8), (([] : List UInt8), ((0 : Int), (Bool.false, (([] : List ((List UInt8) × (Int × Int))), ((0 : Int), (([] : List UInt8), ((0 : Int), ([] : List (List UInt8)))))))))), (5 : Int)))
 else
 bif (decide (v24 > (1099511627776 : Int))) then
 some ((0 : Int), ((([] : List UInt8), (([] : List UInt8), ((0 : Int), (Bool.false, (([] : List ((List UInt8) × (Int × Int))), ((0 : Int), (([] : List UInt8), ((0 : Int), ([] : List (List UInt8)))))))))), (5 : Int)))
 else
 bif ((decide ((List.length v305) ≤ (List.length v305))) && (decide ((List.length v309) ≤ (List.length v309)))) then 
 some (v24, ((v301, (v302, (v303, (v304, ((List.take (List.length v305) v305), (v306, (v307, (v308, (List.take (List.length v309) v309))))))))), (0 : Int)))
 else none
 else none
 else none
 else
 joinO (joinO (joinO (bif (decide ((8 : Int) > (((List.length a1) : Nat) : Int))) then
 some (Sum.inl (([] : List Int), (a1, Bool.true)))
 else
 bif (decide (((0 : Int) ≤ (8 : Int)) ∧ ((8 : Int) ≤ (((List.length a1) : Nat) : Int)))) then 
 bif (decide (((0 : Int) ≤ (8 : Int)) ∧ ((8 : Int) ≤ (((List.length a1) : Nat) : Int)))) then 
 some (Sum.inl ((List.take 8 a1), ((List.drop 8 a1), Bool.false)))
 else none
 else none) fun (v315, (v316, v317)) =>
 joinO (loopO (fun (v318, v319) =>
 bif (decide (v318 < (((List.length v315) : Nat) : Int))) then
 bif (decide (((0 : Int) ≤ v318) ∧ (v318 < (((List.length v315) : Nat) : Int)))) then 
 bindO v315[(Int.toNat v318)]? fun x321 =>
 some (Sum.inl ((Go.IntKind.wrap .i64 (v318 + (1 : Int))), (Go.IntKind.wrap .i64 ((Go.IntKind.wrap .i64 ((256 : Int) * v319)) + (Go.IntKind.wrap .i64 x321)))))
 else none
 else
 outO (some (Sum.inl v319))) ((0 : Int), (0 : Int))) fun v325 =>
 some (Sum.inl (v325, (v316, v317)))) fun (v326, (v327, v328)) =>
 some (Sum.inl (v326, (v327, v328)))) fun (v329, (v330, v331)) =>
 joinO (joinO (bif v331 then
 some (Sum.inl (([] : List Int), (v330, Bool.true)))
 else
 bif (decide ((2 : Int) > (((List.length v330) : Nat) : Int))) then
 some (Sum.inl (([] : List Int), (v330, Bool.true)))
 else
 bif (decide (((0 : Int) ≤ (2 : Int)) ∧ ((2 : Int) ≤ (((List.length v330) : Nat) : Int)))) then 
 bif (decide (((0 : Int) ≤ (2 : Int)) ∧ ((2 : Int) ≤ (((List.length v330) : Nat) : Int)))) then 
 some (Sum.inl ((List.take 2 v330), ((List.drop 2 v330), v331)))
 else none
 else none) fun (v334, (v335, v336)) =>
 joinO (loopO (fun (v337, v338) =>
 bif (decide (v337 < (((List.length v334) : Nat) : Int))) then
 bif (decide (((0 : Int) ≤ v337) ∧ (v337 < (((List.length v334) : Nat) : Int)))) then 
 bindO v334[(Int.toNat v337)]? fun x340 =>
 some (Sum.inl ((Go.IntKind.wrap .i64 (v337 + (1 : Int))), (Go.IntKind.wrap .i64 ((Go.IntKind.wrap .i64 ((256 : Int) * v338)) + (Go.IntKind.wrap .i64 x340)))))
 else none
 else
 outO (some (Sum.inl v338))) ((0 : Int), (0 : Int))) fun v344 =>
 some (Sum.inl (v344, (v335, v336)))) fun (v345, (v346, v347)) =>
 joinO (bif v347 then
 some (Sum.inl (([] : List Int), (v346, Bool.true)))
 else
 bif (decide (v345 > (((List.length v346) : Nat) : Int))) then
 some (Sum.inl (([] : List Int), (v346, Bool.true)))
 else
 bif (decide (((0 : Int) ≤ v345) ∧ (v345 ≤ (((List.length v346) : Nat) : Int)))) then 
 bif (decide (((0 : Int) ≤ v345) ∧ (v345 ≤ (((List.length v346) : Nat) : Int)))) then 
 some (Sum.inl ((List.take (Int.toNat v345) v346), ((List.drop (Int.toNat v345) v346), v347)))
 else none
 else none) fun (v350, (v351, v352)) =>
 joinO (joinO (bif v352 then
 some (Sum.inl (([] : List Int), (v351, Bool.true)))
 else
 bif (decide ((2 : Int) > (((List.length v351) : Nat) : Int))) then
 some (Sum.inl (([] : List Int), (v351, Bool.true)))
 else
 bif (decide (((0 : Int) ≤ (2 : Int)) ∧ ((2 : Int) ≤ (((List.length v351) : Nat) : Int)))) then 
 bif (decide (((0 : Int) ≤ (2 : Int)) ∧ ((2 : Int) ≤ (((List.length v351) : Nat) : Int)))) then 
 some (Sum.inl ((List.take 2 v351), ((List.drop 2 v351), v352)))
 else none
 else none) fun (v355, (v356, v357)) =>
 joinO (loopO (fun (v358, v359) =>
 bif (decide (v358 < (((List.length v355) : Nat) : Int))) then
 bif (decide (((0 : Int) ≤ v358) ∧ (v358 < (((List.length v355) : Nat) : Int)))) then 
 bindO v355[(Int.toNat v358)]? fun x361 =>
 some (Sum.inl ((Go.IntKind.wrap .i64 (v358 + (1 : Int))), (Go.IntKind.wrap .i64 ((Go.IntKind.wrap .i64 ((256 : Int) * v359)) + (Go.IntKind.wrap .i64 x361)))))
 else none
 else
 outO (some (Sum.inl v359))) ((0 : Int), (0 : Int))) fun v365 =>
 some (Sum.inl (v365, (v356, v357)))) fun (v366, (v367, v368)) =>
 joinO (bif v368 then
 some (Sum.inl (([] : List Int), (v367, Bool.true)))
 else
 bif (decide (v366 > (((List.length v367) : Nat) : Int))) then
 some (Sum.inl (([] : List Int), (v367, Bool.true)))
 else
 bif (decide (((0 : Int) ≤ v366) ∧ (v366 ≤ (((List.length v367) : Nat) : Int)))) then 
 bif (decide (((0 : Int) ≤ v366) ∧ (v366 ≤ (((List.length v367) : Nat) : Int)))) then 
 some (Sum.inl ((List.take (Int.toNat v366) v367), ((List.drop (Int.toNat v366) v367), v368)))
 else none
 else none) fun (v371, (v372, v373)) =>
 joinO (joinO (bif v373 then
 some (Sum.inl (([] : List Int), (v372, Bool.true)))
 else
 bif (decide ((4 : Int) > (((List.length v372) : Nat) : Int))) then
 some (Sum.inl (([] : List Int), (v372, Bool.true)))
 else
 bif (decide (((0 : Int) ≤ (4 : Int)) ∧ ((4 : Int) ≤ (((List.length v372) : Nat) : Int)))) then 
 bif (decide (((0 : Int) ≤ (4 : Int)) ∧ ((4 : Int) ≤ (((List.length v372) : Nat) : Int)))) then 
 some (Sum.inl ((List.take 4 v372), ((List.drop 4 v372), v373)))
 else none
 else none) fun (v376, (v377, v378)) =>
 joinO (loopO (fun (v379, v380) =>
 bif (decide (v379 < (((List.length v376) : Nat) : Int))) then
 bif (decide (((0 : Int) ≤ v379) ∧ (v379 < (((List.length v376) : Nat) : Int)))) then 
 bindO v376[(Int.toNat v379)]? fun x382 =>
 some (Sum.inl ((Go.IntKind.wrap .i64 (v379 + (1 : Int))), (Go.IntKind.wrap .i64 ((Go.IntKind.wrap .i64 ((256 : Int) * v380)) + (Go.IntKind.wrap .i64 x382)))))
 else none
 else
 outO (some (Sum.inl v380))) ((0 : Int), (0 : Int))) fun v386 =>
 bif (decide (v386 > (2147483647 : Int))) then
 some (Sum.inl ((Go.IntKind.wrap .i64 (v386 - (4294967296 : Int))), (v377, v378)))
 else
 some (Sum.inl (v386, (v377, v378)))) fun (v388, (v389, v390)) =>
 joinO (joinO (bif v390 then
 some (Sum.inl (([] : List Int), (v389, Bool.true)))
 else
 bif (decide ((1 : Int) > (((List.length v389) : Nat) : Int))) then
 some (Sum.inl (([] : List Int), (v389, Bool.true)))
 else
 bif (decide (((0 : Int) ≤ (1 : Int)) ∧ ((1 : Int) ≤ (((List.length v389) : Nat) : Int)))) then 
 bif (decide (((0 : Int) ≤ (1 : Int)) ∧ ((1 : Int) ≤ (((List.length v389) : Nat) : Int)))) then 
 some (Sum.inl ((List.take 1 v389), ((List.drop 1 v389), v390)))
 else none
 else none) fun (v393, (v394, v395)) =>
 joinO (loopO (fun (v396, v397) =>
 bif (decide (v396 < (((List.length v393) : Nat) : Int))) then
 bif (decide (((0 : Int) ≤ v396) ∧ (v396 < (((List.length v393) : Nat) : Int)))) then 
 bindO v393[(Int.toNat v396)]? fun x399 =>
 some (Sum.inl ((Go.IntKind.wrap .i64 (v396 + (1 : Int))), (Go.IntKind.wrap .i64 ((Go.IntKind.wrap .i64 ((256 : Int) * v397)) + (Go.IntKind.wrap .i64 x399)))))
 else none
 else
 outO (some (Sum.inl v397))) ((0 : Int), (0 : Int))) fun v403 =>
 some (Sum.inl (v403, (v394, v395)))) fun (v404, (v405, v406)) =>
 joinO (joinO (bif v406 then
 some (Sum.inl (([] : List Int), (v405, Bool.true)))
 else
 bif (decide ((4 : Int) > (((List.length v405) : Nat) : Int))) then
 some (Sum.inl (([] : List Int), (v405, Bool.true)))
 else
 bif (decide (((0 : Int) ≤ (4 : Int)) ∧ ((4 : Int) ≤ (((List.length v405) : Nat) : Int)))) then 
 bif (decide (((0 : Int) ≤ (4 : Int)) ∧ ((4 : Int) ≤ (((List.length v405) : Nat) : Int)))) then 
 some (Sum.inl ((List.take 4 v405), ((List.drop 4 v405), v406)))
 else none
 else none) fun (v409, (v410, v411)) =>
 joinO (loopO (fun (v412, v413) =>
 bif (decide (v412 < (((List.length v409) : Nat) : Int))) then
 bif (decide (((0 : Int) ≤ v412) ∧ (v412 < (((List.length v409) : Nat) : Int)))) then 
 bindO v409[(Int.toNat v412)]? fun x415 =>
 some (Sum.inl ((Go.IntKind.wrap .i64 (v412 + (1 : Int))), (Go.IntKind.wrap .i64 ((Go.IntKind.wrap .i64 ((256 : Int) * v413)) + (Go.IntKind.wrap .i64 x415)))))
 else none
 else
 outO (some (Sum.inl v413))) ((0 : Int), (0 : Int))) fun v419 =>
 bif (decide (v419 > (2147483647 : Int))) then
 some (Sum.inl ((Go.IntKind.wrap .i64 (v419 - (4294967296 : Int))), (v410, v411)))
 else
 some (Sum.inl (v419, (v410, v411)))) fun (v421, (v422, v423)) =>
 joinO (joinO (bif v423 then
 some (Sum.inl (([] : List Int), (v422, Bool.true)))
 else
 bif (decide ((2 : Int) > (((List.length v422) : Nat) : Int))) then
 some (Sum.inl (([] : List Int), (v422, Bool.true)))
 else
 bif (decide (((0 : Int) ≤ (2 : Int)) ∧ ((2 : Int) ≤ (((List.length v422) : Nat) : Int)))) then 
 bif (decide (((0 : Int) ≤ (2 : Int)) ∧ ((2 : Int) ≤ (((List.length v422) : Nat) : Int)))) then 
 some (Sum.inl ((List.take 2 v422), ((List.drop 2 v422), v423)))
 else none
 else none) fun (v426, (v427, v428)) =>
 joinO (loopO (fun (v429, v430) =>
 bif (decide (v429 < (((List.length v426) : Nat) : Int))) then
 bif (decide (((0 : Int) ≤ v429) ∧ (v429 < (((List.length v426) : Nat) : Int)))) then 
 bindO v426[(Int.toNat v429)]? fun x432 =>
 some (Sum.inl ((Go.IntKind.wrap .i64 (v429 + (1 : Int))), (Go.IntKind.wrap .i64 ((Go.IntKind.wrap .i64 ((256 : Int) * v430)) + (Go.IntKind.wrap .i64 x432)))))
 else none
 else
 outO (some (Sum.inl v430))) ((0 : Int), (0 : Int))) fun v436 =>
 some (Sum.inl (v436, (v427, v428)))) fun (v437, (v438, v439)) =>
 joinO (bif v439 then
 some (Sum.inl (([] : List Int), (v438, Bool.true)))
 else
 bif (decide (v437 > (((List.length v438) : Nat) : Int))) then
 some (Sum.inl (([] : List Int), (v438, Bool.true)))
 else
 bif (decide (((0 : Int) ≤ v437) ∧ (v437 ≤ (((List.length v438) : Nat) : Int)))) then 
 bif (decide (((0 : Int) ≤ v437) ∧ (v437 ≤ (((List.length v438) : Nat) : Int)))) then 
 some (Sum.inl ((List.take (Int.toNat v437) v438), ((List.drop (Int.toNat v437) v438), v439)))
 else none
 else none) fun (v442, (v443, v444)) =>
 joinO (joinO (bif v444 then
 some (Sum.inl (([] : List Int), (v443, Bool.true)))
 else
 bif (decide ((4 : Int) > (((List.length v443) : Nat) : Int))) then
 some (Sum.inl (([] : List Int), (v443, Bool.true)))
 else
 bif (decide (((0 : Int) ≤ (4 : Int)) ∧ ((4 : Int) ≤ (((List.length v443) : Nat) : Int)))) then 
 bif (decide (((0 : Int) ≤ (4 : Int)) ∧ ((4 : Int) ≤ (((List.length v443) : Nat) : Int)))) then 
 some (Sum.inl ((List.take 4 v443), ((List.drop 4 v443), v444)))
 else none
 else none) fun (v447, (v448, v449)) =>
 joinO (loopO (fun (v450, v451) =>
 bif (decide (v450 < (((List.length v447) : Nat) : Int))) then
 bif (decide (((0 : Int) ≤ v450) ∧ (v450 < (((List.length v447) : Nat) : Int)))) then 
 bindO v447[(Int.toNat v450)]? fun x453 =>
 some (Sum.inl ((Go.IntKind.wrap .i64 (v450 + (1 : Int))), (Go.IntKind.wrap .i64 ((Go.IntKind.wrap .i64 ((256 : Int) * v451)) + (Go.IntKind.wrap .i64 x453)))))
 else none
 else
 outO (some (Sum.inl v451))) ((0 : Int), (0 : Int))) fun v457 =>
 bif (decide (v457 > (2147483647 : Int))) then
 some (Sum.inl ((Go.IntKind.wrap .i64 (v457 - (4294967296 : Int))), (v448, v449)))
 else
 some (Sum.inl (v457, (v448, v449)))) fun (v459, (v460, v461)) =>
 joinO (joinO (bif v461 then
 some (Sum.inl (([] : List Int), (v460, Bool.true)))
 else
 bif (decide ((1 : Int) > (((List.length v460) : Nat) : Int))) then
 some (Sum.inl (([] : List Int), (v460, Bool.true)))
 else
 bif (decide (((0 : Int) ≤ (1 : Int)) ∧ ((1 : Int) ≤ (((List.length v460) : Nat) : Int)))) then 
 bif (decide (((0 : Int) ≤ (1 : Int)) ∧ ((1 : Int) ≤ (((List.length v460) : Nat) : Int)))) then 
 some (Sum.inl ((List.take 1 v460), ((List.drop 1 v460), v461)))
 else none
 else none) fun (v464, (v465, v466)) =>
 joinO (loopO (fun (v467, v468) =>
 bif (decide (v467 < (((List.length v464) : Nat) : Int))) then
 bif (decide (((0 : Int) ≤ v467) ∧ (v467 < (((List.length v464) : Nat) : Int)))) then 
 bindO v464[(Int.toNat v467)]? fun x470 =>
 some (Sum.inl ((Go.IntKind.wrap .i64 (v467 + (1 : Int))), (Go.IntKind.wrap .i64 ((Go.IntKind.wrap .i64 ((256 : Int) * v468)) + (Go.IntKind.wrap .i64 x470)))))
 else none
 else
 outO (some (Sum.inl v468))) ((0 : Int), (0 : Int))) fun v474 =>
 some (Sum.inl (v474, (v465, v466)))) fun (v475, (v476, v477)) =>
 joinO (loopO (fun (v478, ((v479, (v480, (v481, (v482, (v483, (v484, (v485, v486))))))), (v487, v488))) =>
 bif (decide (v478 < v475)) then
 bif (!v488) then
 joinO (joinO (bif v488 then
 some (Sum.inl (([] : List Int), (v487, Bool.true)))
 else
 bif (decide ((2 : Int) > (((List.length v487) : Nat) : Int))) then
 some (Sum.inl (([] : List Int), (v487, Bool.true)))
 else
 bif (decide (((0 : Int) ≤ (2 : Int)) ∧ ((2 : Int) ≤ (((List.length v487) : Nat) : Int)))) then 
 bif (decide (((0 : Int) ≤ (2 : Int)) ∧ ((2 : Int) ≤ (((List.length v487) : Nat) : Int)))) then 
 some (Sum.inl ((List.take 2 v487), ((List.drop 2 v487), v488)))
 else none
 else none) fun (v491, (v492, v493)) =>
 joinO (loopO (fun (v494, v495) =>
 bif (decide (v494 < (((List.length v491) : Nat) : Int))) then
 bif (decide (((0 : Int) ≤ v494) ∧ (v494 < (((List.length v491) : Nat) : Int)))) then 
 bindO v491[(Int.toNat v494)]? fun x497 =>
 some (Sum.inl ((Go.IntKind.wrap .i64 (v494 + (1 : Int))), (Go.IntKind.wrap .i64 ((Go.IntKind.wrap .i64 ((256 : Int) * v495)) + (Go.IntKind.wrap .i64 x497)))))
 else none
 else
 outO (some (Sum.inl v495))) ((0 : Int), (0 : Int))) fun v501 =>
 some (Sum.inl (v501, (v492, v493)))) fun (v502, (v503, v504)) =>
 joinO (bif v504 then
 some (Sum.inl (([] : List Int), (v503, Bool.true)))
 else
 bif (decide (v502 > (((List.length v503) : Nat) : Int))) then
 some (Sum.inl (([] : List Int), (v503, Bool.true)))
 else
 bif (decide (((0 : Int) ≤ v502) ∧ (v502 ≤ (((List.length v503) : Nat) : Int)))) then 
 bif (decide (((0 : Int) ≤ v502) ∧ (v502 ≤ (((List.length v503) : Nat) : Int)))) then 
 some (Sum.inl ((List.take (Int.toNat v502) v503), ((List.drop (Int.toNat v502) v503), v504)))
 else none
 else none) fun (v507, (v508, v509)) =>
 joinO (joinO (bif v509 then
 some (Sum.inl (([] : List Int), (v508, Bool.true)))
 else
 bif (decide ((2 : Int) > (((List.length v508) : Nat) : Int))) then
 some (Sum.inl (([] : List Int), (v508, Bool.true)))
 else
 bif (decide (((0 : Int) ≤ (2 : Int)) ∧ ((2 : Int) ≤ (((List.length v508) : Nat) : Int)))) then 
 bif (decide (((0 : Int) ≤ (2 : Int)) ∧ ((2 : Int) ≤ (((List.length v508) : Nat) : Int)))) then 
 some (Sum.inl ((List.take 2 v508), ((List.drop 2 v508), v509)))
 else none
 else none) fun (v512, (v513, v514)) =>
 joinO (loopO (fun (v515, v516) =>
 bif (decide (v515 < (((List.length v512) : Nat) : Int))) then
 bif (decide (((0 : Int) ≤ v515) ∧ (v515 < (((List.length v512) : Nat) : Int)))) then 
 bindO v512[(Int.toNat v515)]? fun x518 =>
 some (Sum.inl ((Go.IntKind.wrap .i64 (v515 + (1 : Int))), (Go.IntKind.wrap .i64 ((Go.IntKind.wrap .i64 ((256 : Int) * v516)) + (Go.IntKind.wrap .i64 x518)))))
 else none
 else
 outO (some (Sum.inl v516))) ((0 : Int), (0 : Int))) fun v522 =>
 some (Sum.inl (v522, (v513, v514)))) fun (v523, (v524, v525)) =>
 joinO (joinO (bif v525 then
 some (Sum.inl (([] : List Int), (v524, Bool.true)))
 else
 bif (decide ((4 : Int) > (((List.length v524) : Nat) : Int))) then
 some (Sum.inl (([] : List Int), (v524, Bool.true)))
 else
 bif (decide (((0 : Int) ≤ (4 : Int)) ∧ ((4 : Int) ≤ (((List.length v524) : Nat) : Int)))) then 
 bif (decide (((0 : Int) ≤ (4 : Int)) ∧ ((4 : Int) ≤ (((List.length v524) : Nat) : Int)))) then 
 some (Sum.inl ((List.take 4 v524), ((List.drop 4 v524), v525)))
 else none
 else none) fun (v528, (v529, v530)) =>
 joinO (loopO (fun (v531, v532) =>
 bif (decide (v531 < (((List.length v528) : Nat) : Int))) then
 bif (decide (((0 : Int) ≤ v531) ∧ (v531 < (((List.length v528) : Nat) : Int)))) then 
 bindO v528[(Int.toNat v531)]? fun x534 =>
 some (Sum.inl ((Go.IntKind.wrap .i64 (v531 + (1 : Int))), (Go.IntKind.wrap .i64 ((Go.IntKind.wrap .i64 ((256 : Int) * v532)) + (Go.IntKind.wrap .i64 x534)))))
 else none
 else
 outO (some (Sum.inl v532))) ((0 : Int), (0 : Int))) fun v538 =>
 bif (decide (v538 > (2147483647 : Int))) then
 some (Sum.inl ((Go.IntKind.wrap .i64 (v538 - (4294967296 : Int))), (v529, v530)))
 else
 some (Sum.inl (v538, (v529, v530)))) fun (v540, (v541, v542)) =>
 bif (decide ((List.length v483) ≤ (List.length v483))) then 
 bif (decide (((List.length ((List.take (List.length v483) v483) ++ (((bytesU v507), (v523, v540)) :: ([] : List ((List UInt8) × (Int × Int)))))) * 32) ≤ 140737488355328)) then 
 bindO (some ((List.take (List.length v483) v483) ++ (((bytesU v507), (v523, v540)) :: ([] : List ((List UInt8) × (Int × Int)))))) fun x543 =>
 bif (decide ((List.length x543) ≤ (List.length x543))) then 
 some (Sum.inl ((Go.IntKind.wrap .i64 (v478 + (1 : Int))), ((v479, (v480, (v481, (v482, ((List.take (List.length x543) x543), (v484, (v485, v486))))))), (v541, v542))))
 else none
 else none
 else none
 else
 outO (bif (decide ((List.length v483) ≤ (List.length v483))) then 
 some (Sum.inl ((v479, (v480, (v481, (v482, ((List.take (List.length v483) v483), (v484, (v485, v486))))))), (v487, v488)))
 else none)
 else
 outO (bif (decide ((List.length v483) ≤ (List.length v483))) then 
 some (Sum.inl ((v479, (v480, (v481, (v482, ((List.take (List.length v483) v483), (v484, (v485, v486))))))), (v487, v488)))
 else none)) ((0 : Int), (((bytesU v350), ((bytesU v371), (v388, ((decide (v404 = (1 : Int))), (([] : List ((List UInt8) × (Int × Int))), (v421, ((bytesU v442), v459))))))), (v476, v477)))) fun ((v545, (v546, (v547, (v548, (v549, (v550, (v551, v552))))))), (v553, v554)) =>
 joinO (joinO (bif v554 then
 some (Sum.inl (([] : List Int), (v553, Bool.true)))
 else
 bif (decide ((1 : Int) > (((List.length v553) : Nat) : Int))) then
 some (Sum.inl (([] : List Int), (v553, Bool.true)))
 else
 bif (decide (((0 : Int) ≤ (1 : Int)) ∧ ((1 : Int) ≤ (((List.length v553) : Nat) : Int)))) then 
 bif (decide (((0 : Int) ≤ (1 : Int)) ∧ ((1 : Int) ≤ (((List.length v553) : Nat) : Int)))) then 
 some (Sum.inl ((List.take 1 v553), ((List.drop 1 v553), v554)))
 else none
 else none) fun (v557, (v558, v559)) =>
 joinO (loopO (fun (v560, v561) =>
 bif (decide (v560 < (((List.length v557) : Nat) : Int))) then
 bif (decide (((0 : Int) ≤ v560) ∧ (v560 < (((List.length v557) : Nat) : Int)))) then 
 bindO v557[(Int.toNat v560)]? fun x563 =>
 some (Sum.inl ((Go.IntKind.wrap .i64 (v560 + (1 : Int))), (Go.IntKind.wrap .i64 ((Go.IntKind.wrap .i64 ((256 : Int) * v561)) + (Go.IntKind.wrap .i64 x563)))))
 else none
 else
 outO (some (Sum.inl v561))) ((0 : Int), (0 : Int))) fun v567 =>
 some (Sum.inl (v567, (v558, v559)))) fun (v568, (v569, v570)) =>
 joinO (bif (decide ((List.length v549) ≤ (List.length v549))) then 
 loopO (fun (v571, ((v572, (v573, (v574, (v575, (v576, (v577, (v578, (v579, v580)))))))), (v581, v582))) =>
 bif (decide (v571 < v568)) then
 bif (!v582) then
 joinO (joinO (bif v582 then
 some (Sum.inl (([] : List Int), (v581, Bool.true)))
 else
 bif (decide ((2 : Int) > (((List.length v581) : Nat) : Int))) then
 some (Sum.inl (([] : List Int), (v581, Bool.true)))
 else
 bif (decide (((0 : Int) ≤ (2 : Int)) ∧ ((2 : Int) ≤ (((List.length v581) : Nat) : Int)))) then 
 bif (decide (((0 : Int) ≤ (2 : Int)) ∧ ((2 : Int) ≤ (((List.length v581) : Nat) : Int)))) then 
 some (Sum.inl ((List.take 2 v581), ((List.drop 2 v581), v582)))
 else none
 else none) fun (v585, (v586, v587)) =>
 joinO (loopO (fun (v588, v589) =>
 bif (decide (v588 < (((List.length v585) : Nat) : Int))) then
 bif (decide (((0 : Int) ≤ v588) ∧ (v588 < (((List.length v585) : Nat) : Int)))) then 
 bindO v585[(Int.toNat v588)]? fun x591 =>
 some (Sum.inl ((Go.IntKind.wrap .i64 (v588 + (1 : Int))), (Go.IntKind.wrap .i64 ((Go.IntKind.wrap .i64 ((256 : Int) * v589)) + (Go.IntKind.wrap .i64 x591)))))
 else none
 else
 outO (some (Sum.inl v589))) ((0 : Int), (0 : Int))) fun v595 =>
 some (Sum.inl (v595, (v586, v587)))) fun (v596, (v597, v598)) =>
 joinO (bif v598 then
 some (Sum.inl (([] : List Int), (v597, Bool.true)))
 else
 bif (decide (v596 > (((List.length v597) : Nat) : Int))) then
 some (Sum.inl (([] : List Int), (v597, Bool.true)))
 else
 bif (decide (((0 : Int) ≤ v596) ∧ (v596 ≤ (((List.length v597) : Nat) : Int)))) then 
 bif (decide (((0 : Int) ≤ v596) ∧ (v596 ≤ (((List.length v597) : Nat) : Int)))) then 
 some (Sum.inl ((List.take (Int.toNat v596) v597), ((List.drop (Int.toNat v596) v597), v598)))
 else none
 else none) fun (v601, (v602, v603)) =>
 bif (decide ((List.length v580) ≤ (List.length v580))) then 
 bif (decide (((List.length ((List.take (List.length v580) v580) ++ ((bytesU v601) :: ([] : List (List UInt8))))) * 16) ≤ 140737488355328)) then 
 bindO (some ((List.take (List.length v580) v580) ++ ((bytesU v601) :: ([] : List (List UInt8))))) fun x604 =>
 bif ((decide ((List.length v576) ≤ (List.length v576))) && (decide ((List.length x604) ≤ (List.length x604)))) then 
 some (Sum.inl ((Go.IntKind.wrap .i64 (v571 + (1 : Int))), ((v572, (v573, (v574, (v575, ((List.take (List.length v576) v576), (v577, (v578, (v579, (List.take (List.length x604) x604))))))))), (v602, v603))))
 else none
 else none
 else none
 else
 outO (bif ((decide ((List.length v576) ≤ (List.length v576))) && (decide ((List.length v580) ≤ (List.length v580)))) then 
 some (Sum.inl ((v572, (v573, (v574, (v575, ((List.take (List.length v576) v576), (v577, (v578, (v579, (List.take (List.length v580) v580))))))))), (v581, v582)))
 else none)
 else
 outO (bif ((decide ((List.length v576) ≤ (List.length v576))) && (decide ((List.length v580) ≤ (List.length v580)))) then 
 some (Sum.inl ((v572, (v573, (v574, (v575, ((List.take (List.length v576) v576), (v577, (v578, (v579, (List.take (List.length v580) v580))))))))), (v581, v582)))
 else none)) ((0 : Int), ((v545, (v546, (v547, (v548, ((List.take (List.length v549) v549), (v550, (v551, (v552, ([] : List (List UInt8)))))))))), (v569, v570)))
 else none) fun ((v606, (v607, (v608, (v609, (v610, (v611, (v612, (v613, v614)))))))), (v615, v616)) =>
 bif v616 then
 some ((0 : Int), ((([] : List UInt8), (([] : List UInt8), ((0 : Int), (Bool.false, (([] : List ((List UInt8) × (Int × Int))), ((0 : Int), (([] : List UInt8), ((0 : Int), ([] : List (List UInt8)))))))))), (6 : Int)))
 else
 bif (decide ((((List.length v615) : Nat) : Int) > (0 : Int))) then
 some ((0 : Int), ((([] : List UInt8), (([] : List UInt8), ((0 : Int), (Bool.false, (([] : List ((List UInt8) × (Int × Int))), ((0 : Int), (([] : List UInt8), ((0 : Int), ([] : List (List UInt8)))))))))), (5 : Int)))
 else
 bif (decide (v404 > (1 : Int))) then
 some ((0 : Int), ((([] : List UInt8), (([] : List UInt8), ((0 : Int), (Bool.false, (([] : List ((List UInt8) × (Int × Int))), ((0 : Int), (([] : List UInt8), ((0 : Int), ([] : List (List UInt8)))))))))), (5 : Int)))
 else
 bif ((decide ((List.length v610) ≤ (List.length v610))) && (decide ((List.length v614) ≤ (List.length v614)))) then 
 bindO (dialtoneref22_Formed (v606, (v607, (v608, (v609, ((List.take (List.length v610) v610), (v611, (v612, (v613, (List.take (List.length v614) v614)))))))))) fun x617 =>
 bif (!x617) then
 some ((0 : Int), ((([] : List UInt8), (([] : List UInt8), ((0 : Int), (Bool.false, (([] : List ((List UInt8) × (Int × Int))), ((0 : Int), (([] : List UInt8), ((0 : Int), ([] : List (List UInt8)))))))))), (5 : Int)))
 else
 bif (decide (v329 > (1099511627776 : Int))) then
 some ((0 : Int), ((([] : List UInt8), (([] : List UInt8), ((0 : Int), (Bool.false, (([] : List ((List UInt8) × (Int × Int))), ((0 : Int), (([] : List UInt8), ((0 : Int), ([] : List (List UInt8)))))))))), (5 : Int)))
 else
 bif ((decide ((List.length v610) ≤ (List.length v610))) && (decide ((List.length v614) ≤ (List.length v614)))) then 
 some (v329, ((v606, (v607, (v608, (v609, ((List.take (List.length v610) v610), (v611, (v612, (v613, (List.take (List.length v614) v614))))))))), (0 : Int)))
 else none
 else none
noncomputable def cons25 : List (Nat × CE) := [(9, ⟨[], riB, (fun _ => some true)⟩), (34, ⟨[(.tmp 0 false [(.dat (.int .i64))]), (.tmp 1 false [(.dat (.int .i64))]), (.tmp 2 false [(.dat (.int .i64))])], [(.tmp 0 false [(.dat .bool)])], registrar_within⟩), (10, ⟨[(.tmp 0 true [(.dat (.int .i64)), (.dat (.int .i64)), (.dat (.int .i64)), (.dat (.int .i64))])], [(.tmp 0 false [(.dat .bool)])], registrar_Valid⟩), (12, ⟨[(.tmp 0 true [(.dat .str), (.dat .str), (.dat (.int .i64)), (.dat .bool), (.dat (.list (.pair .str (.pair (.int .i64) (.int .i64))))), (.dat (.int .i64)), (.dat .str), (.dat (.int .i64)), (.dat (.list .str))])], [(.tmp 0 false [(.dat .bool)])], registrar_Formed⟩), (33, ⟨[(.tmp 0 false [(.dat (.int .i64))]), (.tmp 1 false [(.dat (.int .i64))]), (.tmp 2 false [(.dat (.int .i64))])], [(.tmp 0 false [(.dat .bool)])], dialtoneref22_within⟩), (11, ⟨[(.tmp 0 true [(.dat (.int .i64)), (.dat (.int .i64)), (.dat (.int .i64)), (.dat (.int .i64))])], [(.tmp 0 false [(.dat .bool)])], dialtoneref22_Valid⟩), (39, ⟨[(.tmp 0 true [(.dat .str), (.dat .str), (.dat (.int .i64)), (.dat .bool), (.dat (.list (.pair .str (.pair (.int .i64) (.int .i64))))), (.dat (.int .i64)), (.dat .str), (.dat (.int .i64)), (.dat (.list .str))])], [(.tmp 0 false [(.dat .bool)])], dialtoneref22_contacts⟩), (13, ⟨[(.tmp 0 true [(.dat .str), (.dat .str), (.dat (.int .i64)), (.dat .bool), (.dat (.list (.pair .str (.pair (.int .i64) (.int .i64))))), (.dat (.int .i64)), (.dat .str), (.dat (.int .i64)), (.dat (.list .str))])], [(.tmp 0 false [(.dat .bool)])], dialtoneref22_Formed⟩), (8, ⟨[(.tmp 0 true [(.dat .str), (.dat .str), (.dat (.int .i64)), (.dat .bool), (.dat (.list (.pair .str (.pair (.int .i64) (.int .i64))))), (.dat (.int .i64)), (.dat .str), (.dat (.int .i64)), (.dat (.list .str))])], [(.tmp 0 false [(.dat .bool)])], dialtonelaw22_few⟩), (3, ⟨[(.tmp 0 true [(.dat (.int .i64)), (.dat (.int .i64)), (.dat (.int .i64)), (.dat (.int .i64))]), (.tmp 1 true [(.dat .str), (.dat .str), (.dat (.int .i64)), (.dat .bool), (.dat (.list (.pair .str (.pair (.int .i64) (.int .i64))))), (.dat (.int .i64)), (.dat .str), (.dat (.int .i64)), (.dat (.list .str))])], [(.tmp 0 false [(.dat .bool)])], dialtonelaw22_RegistrarForms⟩), (22, ⟨[(.tmp 0 false [(.dat (.int .i64))]), (.tmp 1 true [(.dat .str), (.dat .str), (.dat (.int .i64)), (.dat .bool), (.dat (.list (.pair .str (.pair (.int .i64) (.int .i64))))), (.dat (.int .i64)), (.dat .str), (.dat (.int .i64)), (.dat (.list .str))])], [(.tmp 0 false [(.dat (.list (.int .u8)))]), (.tmp 1 false [(.dat (.int .u8))])], registrar_EncodeAct⟩), (60, ⟨[(.tmp 0 false [(.dat (.int .u64))])], [(.tmp 0 false [(.dat (.int .i64))])], registrar_signed⟩), (24, ⟨[(.tmp 0 false [(.dat (.list (.int .u8)))])], [(.tmp 0 false [(.dat (.int .i64))]), (.tmp 1 true [(.dat .str), (.dat .str), (.dat (.int .i64)), (.dat .bool), (.dat (.list (.pair .str (.pair (.int .i64) (.int .i64))))), (.dat (.int .i64)), (.dat .str), (.dat (.int .i64)), (.dat (.list .str))]), (.tmp 2 false [(.dat (.int .u8))])], registrar_DecodeAct⟩), (23, ⟨[(.tmp 0 false [(.dat (.int .i64))]), (.tmp 1 true [(.dat .str), (.dat .str), (.dat (.int .i64)), (.dat .bool), (.dat (.list (.pair .str (.pair (.int .i64) (.int .i64))))), (.dat (.int .i64)), (.dat .str), (.dat (.int .i64)), (.dat (.list .str))])], [(.tmp 0 false [(.dat (.list (.int .u8)))]), (.tmp 1 false [(.dat (.int .u8))])], dialtoneref22_EncodeAct⟩)]
theorem cons25_ok : ConL Try.prog cons25 := ⟨con_true (by kernel_rfl) lives_o, con34, con10, con12, con33, con11, con39, con13, con8, con3, con22, con60, con24, con23, trivial⟩
theorem con25 : ConOk Try.prog 25 ⟨[(.tmp 0 false [(.dat (.list (.int .u8)))])], [(.tmp 0 false [(.dat (.int .i64))]), (.tmp 1 true [(.dat .str), (.dat .str), (.dat (.int .i64)), (.dat .bool), (.dat (.list (.pair .str (.pair (.int .i64) (.int .i64))))), (.dat (.int .i64)), (.dat .str), (.dat (.int .i64)), (.dat (.list .str))]), (.tmp 2 false [(.dat (.int .u8))])], dialtoneref22_DecodeAct⟩ :=
  tree_ok (plan := planOf plan25) (eg := egNo) KK tabL_ok (conOf_ok cons25_ok) Try.func25 (by kernel_rfl) (by kernel_rfl) 10000 (fun a r h => Eq.trans (show _ = dialtoneref22_DecodeAct a from by kernel_rfl) h)
def plan50 : List (Nat × PL) := [(134480385, (.carry [])), (18049651601311750, (.carry [.tmp 5 false [(.dat (.int .i64))]]))]
noncomputable def dialtoneref22_strings : ((List (List UInt8)) × (List (List UInt8))) → Option Bool := fun (a1, a2) =>
 bif (decide ((((List.length a1) : Nat) : Int) ≠ (((List.length a2) : Nat) : Int))) then
 some Bool.false
 else
 joinO (loopO (fun v3 =>
 bif (decide (v3 < (((List.length a1) : Nat) : Int))) then
 bif (decide (((0 : Int) ≤ v3) ∧ (v3 < (((List.length a1) : Nat) : Int)))) then 
 bindO a1[(Int.toNat v3)]? fun x4 =>
 bif (decide (((0 : Int) ≤ v3) ∧ (v3 < (((List.length a2) : Nat) : Int)))) then 
 bindO a2[(Int.toNat v3)]? fun x5 =>
 bif (decide (x4 ≠ x5)) then
 outO (outO (some Bool.false))
 else
 some (Sum.inl (Go.IntKind.wrap .i64 (v3 + (1 : Int))))
 else none
 else none
 else
 outO (some (Sum.inl ()))) (0 : Int)) fun _ =>
 some Bool.true
noncomputable def cons50 : List (Nat × CE) := [(9, ⟨[], riB, (fun _ => some true)⟩), (34, ⟨[(.tmp 0 false [(.dat (.int .i64))]), (.tmp 1 false [(.dat (.int .i64))]), (.tmp 2 false [(.dat (.int .i64))])], [(.tmp 0 false [(.dat .bool)])], registrar_within⟩), (10, ⟨[(.tmp 0 true [(.dat (.int .i64)), (.dat (.int .i64)), (.dat (.int .i64)), (.dat (.int .i64))])], [(.tmp 0 false [(.dat .bool)])], registrar_Valid⟩), (12, ⟨[(.tmp 0 true [(.dat .str), (.dat .str), (.dat (.int .i64)), (.dat .bool), (.dat (.list (.pair .str (.pair (.int .i64) (.int .i64))))), (.dat (.int .i64)), (.dat .str), (.dat (.int .i64)), (.dat (.list .str))])], [(.tmp 0 false [(.dat .bool)])], registrar_Formed⟩), (33, ⟨[(.tmp 0 false [(.dat (.int .i64))]), (.tmp 1 false [(.dat (.int .i64))]), (.tmp 2 false [(.dat (.int .i64))])], [(.tmp 0 false [(.dat .bool)])], dialtoneref22_within⟩), (11, ⟨[(.tmp 0 true [(.dat (.int .i64)), (.dat (.int .i64)), (.dat (.int .i64)), (.dat (.int .i64))])], [(.tmp 0 false [(.dat .bool)])], dialtoneref22_Valid⟩), (39, ⟨[(.tmp 0 true [(.dat .str), (.dat .str), (.dat (.int .i64)), (.dat .bool), (.dat (.list (.pair .str (.pair (.int .i64) (.int .i64))))), (.dat (.int .i64)), (.dat .str), (.dat (.int .i64)), (.dat (.list .str))])], [(.tmp 0 false [(.dat .bool)])], dialtoneref22_contacts⟩), (13, ⟨[(.tmp 0 true [(.dat .str), (.dat .str), (.dat (.int .i64)), (.dat .bool), (.dat (.list (.pair .str (.pair (.int .i64) (.int .i64))))), (.dat (.int .i64)), (.dat .str), (.dat (.int .i64)), (.dat (.list .str))])], [(.tmp 0 false [(.dat .bool)])], dialtoneref22_Formed⟩), (8, ⟨[(.tmp 0 true [(.dat .str), (.dat .str), (.dat (.int .i64)), (.dat .bool), (.dat (.list (.pair .str (.pair (.int .i64) (.int .i64))))), (.dat (.int .i64)), (.dat .str), (.dat (.int .i64)), (.dat (.list .str))])], [(.tmp 0 false [(.dat .bool)])], dialtonelaw22_few⟩), (3, ⟨[(.tmp 0 true [(.dat (.int .i64)), (.dat (.int .i64)), (.dat (.int .i64)), (.dat (.int .i64))]), (.tmp 1 true [(.dat .str), (.dat .str), (.dat (.int .i64)), (.dat .bool), (.dat (.list (.pair .str (.pair (.int .i64) (.int .i64))))), (.dat (.int .i64)), (.dat .str), (.dat (.int .i64)), (.dat (.list .str))])], [(.tmp 0 false [(.dat .bool)])], dialtonelaw22_RegistrarForms⟩), (22, ⟨[(.tmp 0 false [(.dat (.int .i64))]), (.tmp 1 true [(.dat .str), (.dat .str), (.dat (.int .i64)), (.dat .bool), (.dat (.list (.pair .str (.pair (.int .i64) (.int .i64))))), (.dat (.int .i64)), (.dat .str), (.dat (.int .i64)), (.dat (.list .str))])], [(.tmp 0 false [(.dat (.list (.int .u8)))]), (.tmp 1 false [(.dat (.int .u8))])], registrar_EncodeAct⟩), (60, ⟨[(.tmp 0 false [(.dat (.int .u64))])], [(.tmp 0 false [(.dat (.int .i64))])], registrar_signed⟩), (24, ⟨[(.tmp 0 false [(.dat (.list (.int .u8)))])], [(.tmp 0 false [(.dat (.int .i64))]), (.tmp 1 true [(.dat .str), (.dat .str), (.dat (.int .i64)), (.dat .bool), (.dat (.list (.pair .str (.pair (.int .i64) (.int .i64))))), (.dat (.int .i64)), (.dat .str), (.dat (.int .i64)), (.dat (.list .str))]), (.tmp 2 false [(.dat (.int .u8))])], registrar_DecodeAct⟩), (23, ⟨[(.tmp 0 false [(.dat (.int .i64))]), (.tmp 1 true [(.dat .str), (.dat .str), (.dat (.int .i64)), (.dat .bool), (.dat (.list (.pair .str (.pair (.int .i64) (.int .i64))))), (.dat (.int .i64)), (.dat .str), (.dat (.int .i64)), (.dat (.list .str))])], [(.tmp 0 false [(.dat (.list (.int .u8)))]), (.tmp 1 false [(.dat (.int .u8))])], dialtoneref22_EncodeAct⟩), (25, ⟨[(.tmp 0 false [(.dat (.list (.int .u8)))])], [(.tmp 0 false [(.dat (.int .i64))]), (.tmp 1 true [(.dat .str), (.dat .str), (.dat (.int .i64)), (.dat .bool), (.dat (.list (.pair .str (.pair (.int .i64) (.int .i64))))), (.dat (.int .i64)), (.dat .str), (.dat (.int .i64)), (.dat (.list .str))]), (.tmp 2 false [(.dat (.int .u8))])], dialtoneref22_DecodeAct⟩)]
theorem cons50_ok : ConL Try.prog cons50 := ⟨con_true (by kernel_rfl) lives_o, con34, con10, con12, con33, con11, con39, con13, con8, con3, con22, con60, con24, con23, con25, trivial⟩
theorem con50 : ConOk Try.prog 50 ⟨[(.tmp 0 false [(.dat (.list .str))]), (.tmp 1 false [(.dat (.list .str))])], [(.tmp 0 false [(.dat .bool)])], dialtoneref22_strings⟩ :=
  tree_ok (plan := planOf plan50) (eg := egNo) KK tabL_ok (conOf_ok cons50_ok) Try.func50 (by kernel_rfl) (by kernel_rfl) 10000 (fun a r h => Eq.trans (show _ = dialtoneref22_strings a from by kernel_rfl) h)
def plan26 : List (Nat × PL) := [(262657, (.carry [])), (134480385, (.carry [])), (18049651601311750, (.carry [.tmp 5 false [(.dat (.int .i64))]]))]
noncomputable def dialtoneref22_SameAct : (((List UInt8) × ((List UInt8) × (Int × (Bool × ((List ((List UInt8) × (Int × Int))) × (Int × ((List UInt8) × (Int × (List (List UInt8)))))))))) × ((List UInt8) × ((List UInt8) × (Int × (Bool × ((List ((List UInt8) × (Int × Int))) × (Int × ((List UInt8) × (Int × (List (List UInt8))))))))))) → Option Bool := fun ((a1, (a2, (a3, (a4, (a5, (a6, (a7, (a8, a9)))))))), (a10, (a11, (a12, (a13, (a14, (a15, (a16, (a17, a18))))))))) =>
 joinO (bif (decide (a1 ≠ a10)) then
 outO (some Bool.false)
 else
 bif (decide (a2 ≠ a11)) then
 outO (some Bool.false)
 else
 bif (decide (a3 ≠ a12)) then
 outO (some Bool.false)
 else
 bif (a4 != a13) then
 outO (some Bool.false)
 else
 bif (decide (a6 ≠ a15)) then
 outO (some Bool.false)
 else
 bif (decide (a7 ≠ a16)) then
 outO (some Bool.false)
 else
 bif (decide (a8 ≠ a17)) then
 outO (some Bool.false)
 else
 bindO (dialtoneref22_strings (a9, a18)) fun x19 =>
 bif (!x19) then
 outO (some Bool.false)
 else
 bif (decide ((((List.length a5) : Nat) : Int) ≠ (((List.length a14) : Nat) : Int))) then
 outO (some Bool.false)
 else
 some (Sum.inl ())) fun _ =>
 joinO (loopO (fun v20 =>
 bif (decide (v20 < (((List.length a5) : Nat) : Int))) then
 bif (decide (((0 : Int) ≤ v20) ∧ (v20 < (((List.length a5) : Nat) : Int)))) then 
 bindO a5[(Int.toNat v20)]? fun x21 =>
 bif (decide (((0 : Int) ≤ v20) ∧ (v20 < (((List.length a14) : Nat) : Int)))) then 
 bindO a14[(Int.toNat v20)]? fun x22 =>
 bif (!((decide (x21.1 = x22.1)) && ((decide (x21.2.1 = x22.2.1)) && (decide (x21.2.2 = x22.2.2))))) then
 outO (outO (some Bool.false))
 else
 some (Sum.inl (Go.IntKind.wrap .i64 (v20 + (1 : Int))))
 else none
 else none
 else
 outO (some (Sum.inl ()))) (0 : Int)) fun _ =>
 some Bool.true
noncomputable def cons26 : List (Nat × CE) := [(9, ⟨[], riB, (fun _ => some true)⟩), (34, ⟨[(.tmp 0 false [(.dat (.int .i64))]), (.tmp 1 false [(.dat (.int .i64))]), (.tmp 2 false [(.dat (.int .i64))])], [(.tmp 0 false [(.dat .bool)])], registrar_within⟩), (10, ⟨[(.tmp 0 true [(.dat (.int .i64)), (.dat (.int .i64)), (.dat (.int .i64)), (.dat (.int .i64))])], [(.tmp 0 false [(.dat .bool)])], registrar_Valid⟩), (12, ⟨[(.tmp 0 true [(.dat .str), (.dat .str), (.dat (.int .i64)), (.dat .bool), (.dat (.list (.pair .str (.pair (.int .i64) (.int .i64))))), (.dat (.int .i64)), (.dat .str), (.dat (.int .i64)), (.dat (.list .str))])], [(.tmp 0 false [(.dat .bool)])], registrar_Formed⟩), (33, ⟨[(.tmp 0 false [(.dat (.int .i64))]), (.tmp 1 false [(.dat (.int .i64))]), (.tmp 2 false [(.dat (.int .i64))])], [(.tmp 0 false [(.dat .bool)])], dialtoneref22_within⟩), (11, ⟨[(.tmp 0 true [(.dat (.int .i64)), (.dat (.int .i64)), (.dat (.int .i64)), (.dat (.int .i64))])], [(.tmp 0 false [(.dat .bool)])], dialtoneref22_Valid⟩), (39, ⟨[(.tmp 0 true [(.dat .str), (.dat .str), (.dat (.int .i64)), (.dat .bool), (.dat (.list (.pair .str (.pair (.int .i64) (.int .i64))))), (.dat (.int .i64)), (.dat .str), (.dat (.int .i64)), (.dat (.list .str))])], [(.tmp 0 false [(.dat .bool)])], dialtoneref22_contacts⟩), (13, ⟨[(.tmp 0 true [(.dat .str), (.dat .str), (.dat (.int .i64)), (.dat .bool), (.dat (.list (.pair .str (.pair (.int .i64) (.int .i64))))), (.dat (.int .i64)), (.dat .str), (.dat (.int .i64)), (.dat (.list .str))])], [(.tmp 0 false [(.dat .bool)])], dialtoneref22_Formed⟩), (8, ⟨[(.tmp 0 true [(.dat .str), (.dat .str), (.dat (.int .i64)), (.dat .bool), (.dat (.list (.pair .str (.pair (.int .i64) (.int .i64))))), (.dat (.int .i64)), (.dat .str), (.dat (.int .i64)), (.dat (.list .str))])], [(.tmp 0 false [(.dat .bool)])], dialtonelaw22_few⟩), (3, ⟨[(.tmp 0 true [(.dat (.int .i64)), (.dat (.int .i64)), (.dat (.int .i64)), (.dat (.int .i64))]), (.tmp 1 true [(.dat .str), (.dat .str), (.dat (.int .i64)), (.dat .bool), (.dat (.list (.pair .str (.pair (.int .i64) (.int .i64))))), (.dat (.int .i64)), (.dat .str), (.dat (.int .i64)), (.dat (.list .str))])], [(.tmp 0 false [(.dat .bool)])], dialtonelaw22_RegistrarForms⟩), (22, ⟨[(.tmp 0 false [(.dat (.int .i64))]), (.tmp 1 true [(.dat .str), (.dat .str), (.dat (.int .i64)), (.dat .bool), (.dat (.list (.pair .str (.pair (.int .i64) (.int .i64))))), (.dat (.int .i64)), (.dat .str), (.dat (.int .i64)), (.dat (.list .str))])], [(.tmp 0 false [(.dat (.list (.int .u8)))]), (.tmp 1 false [(.dat (.int .u8))])], registrar_EncodeAct⟩), (60, ⟨[(.tmp 0 false [(.dat (.int .u64))])], [(.tmp 0 false [(.dat (.int .i64))])], registrar_signed⟩), (24, ⟨[(.tmp 0 false [(.dat (.list (.int .u8)))])], [(.tmp 0 false [(.dat (.int .i64))]), (.tmp 1 true [(.dat .str), (.dat .str), (.dat (.int .i64)), (.dat .bool), (.dat (.list (.pair .str (.pair (.int .i64) (.int .i64))))), (.dat (.int .i64)), (.dat .str), (.dat (.int .i64)), (.dat (.list .str))]), (.tmp 2 false [(.dat (.int .u8))])], registrar_DecodeAct⟩), (23, ⟨[(.tmp 0 false [(.dat (.int .i64))]), (.tmp 1 true [(.dat .str), (.dat .str), (.dat (.int .i64)), (.dat .bool), (.dat (.list (.pair .str (.pair (.int .i64) (.int .i64))))), (.dat (.int .i64)), (.dat .str), (.dat (.int .i64)), (.dat (.list .str))])], [(.tmp 0 false [(.dat (.list (.int .u8)))]), (.tmp 1 false [(.dat (.int .u8))])], dialtoneref22_EncodeAct⟩), (25, ⟨[(.tmp 0 false [(.dat (.list (.int .u8)))])], [(.tmp 0 false [(.dat (.int .i64))]), (.tmp 1 true [(.dat .str), (.dat .str), (.dat (.int .i64)), (.dat .bool), (.dat (.list (.pair .str (.pair (.int .i64) (.int .i64))))), (.dat (.int .i64)), (.dat .str), (.dat (.int .i64)), (.dat (.list .str))]), (.tmp 2 false [(.dat (.int .u8))])], dialtoneref22_DecodeAct⟩), (50, ⟨[(.tmp 0 false [(.dat (.list .str))]), (.tmp 1 false [(.dat (.list .str))])], [(.tmp 0 false [(.dat .bool)])], dialtoneref22_strings⟩)]
theorem cons26_ok : ConL Try.prog cons26 := ⟨con_true (by kernel_rfl) lives_o, con34, con10, con12, con33, con11, con39, con13, con8, con3, con22, con60, con24, con23, con25, con50, trivial⟩
theorem con26 : ConOk Try.prog 26 ⟨[(.tmp 0 true [(.dat .str), (.dat .str), (.dat (.int .i64)), (.dat .bool), (.dat (.list (.pair .str (.pair (.int .i64) (.int .i64))))), (.dat (.int .i64)), (.dat .str), (.dat (.int .i64)), (.dat (.list .str))]), (.tmp 1 true [(.dat .str), (.dat .str), (.dat (.int .i64)), (.dat .bool), (.dat (.list (.pair .str (.pair (.int .i64) (.int .i64))))), (.dat (.int .i64)), (.dat .str), (.dat (.int .i64)), (.dat (.list .str))])], [(.tmp 0 false [(.dat .bool)])], dialtoneref22_SameAct⟩ :=
  tree_ok (plan := planOf plan26) (eg := egNo) KK tabL_ok (conOf_ok cons26_ok) Try.func26 (by kernel_rfl) (by kernel_rfl) 10000 (fun a r h => Eq.trans (show _ = dialtoneref22_SameAct a from by kernel_rfl) h)
end Go.Proofs.Ytlaccfegaoaakaa
