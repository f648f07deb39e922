import Derived.Test.YtlaccfegaoaakaaFp
import Derived.Test.YtlaccfegaoaakaaXBp
import Derived.Test.YtlaccfegaoaakaaZ1p
set_option linter.unusedVariables false
set_option maxRecDepth 1000000
set_option maxHeartbeats 0
namespace Go.Proofs.Ytlaccfegaoaakaa
open Go.RowKit
def plan22 : List (Nat × PL) := [(262657, (.carry [])), (9241421688590303250, (.carry [.mix 3 [(.own 10000002 5 (.int .u8))]])), (5857446875251837918749797529164281065012793182214, (.carry [.tmp 5 false [(.dat (.int .i64))], .mix 3 [(.own 10000036 5 (.int .u8))], .dead 10000035])), (43641380036263450374825280377002664395265, (.carry [.mix 3 [(.own 10000050 5 (.int .u8))], .dead 10000037])), (1240362622532514025046280198, (.carry [.tmp 5 false [(.dat (.int .i64))], .mix 3 [(.own 10000018 5 (.int .u8))]])), (1240362622532514091354554387, (.carry [.mix 3 [(.own 10000020 5 (.int .u8))], .dead 10000002])), (166478653092435647469592732275836934, (.carry [.tmp 5 false [(.dat (.int .i64))], .mix 3 [(.own 10000019 5 (.int .u8))], .dead 10000002])), (635065662736647214839706157075, (.carry [.mix 3 [(.own 10000022 5 (.int .u8))], .dead 22])), (85237070383327051513313244590217889798, (.carry [.tmp 5 false [(.dat (.int .i64))], .mix 3 [(.own 10000021 5 (.int .u8))], .dead 22])), (1240362622532514091484053523, (.carry [.mix 3 [(.own 10000024 5 (.int .u8))], .dead 34])), (166478653092435647486973812087719942, (.carry [.tmp 5 false [(.dat (.int .i64))], .mix 3 [(.own 10000023 5 (.int .u8))], .dead 34])), (1240362622532514091484054017, (.carry [.mix 3 [(.own 10000029 5 (.int .u8))], .dead 10000024])), (166478653092435647486973878257058833, (.carry [.mix 3 [(.own 10000027 5 (.int .u8))], .dead 10000024])), (166478653092435647486973878257059345, (.carry [.mix 3 [(.own 10000028 5 (.int .u8))], .dead 10000024])), (22344386578566886591910543535011036527855622, (.carry [.tmp 5 false [(.dat (.int .i64))], .mix 3 [(.own 10000025 5 (.int .u8))], .dead 10000024])), (22344386578566886591910543535011105247332358, (.carry [.tmp 5 false [(.dat (.int .i64))], .mix 3 [(.own 10000026 5 (.int .u8))], .dead 10000024])), (325153619321163373997995856232467, (.carry [.mix 3 [(.own 10000031 5 (.int .u8))], .dead 10000029])), (43641380036263450374825280376936360839174, (.carry [.tmp 5 false [(.dat (.int .i64))], .mix 3 [(.own 10000030 5 (.int .u8))], .dead 10000029])), (43641380036263450374825280377002534895635, (.carry [.mix 3 [(.own 10000033 5 (.int .u8))], .dead 10000031])), (5857446875251837918749797529164263683932847081478, (.carry [.tmp 5 false [(.dat (.int .i64))], .mix 3 [(.own 10000032 5 (.int .u8))], .dead 10000031])), (85237070383327051513330625736333328403, (.carry [.mix 3 [(.own 10000035 5 (.int .u8))], .dead 54])), (11440325928226245935058198299148986388928792582, (.carry [.tmp 5 false [(.dat (.int .i64))], .mix 3 [(.own 10000034 5 (.int .u8))], .dead 54])), (43641380036263450374825280377002664394772, (.carry [.mix 3 [(.own 10000037 5 (.int .u8))], .dead 10000035])), (5857446875251837918749797529164281065078828304390, (.carry [.tmp 67 false [(.dat (.int .i64))], .mix 3 [(.own 10000042 5 (.int .u8))], .dead 10000037])), (14162437529025953452002322041180027868550309617466840484466301573794627603, (.carry [.mix 3 [(.own 10000039 5 (.int .u8))], .dead 10000042])), (1900850188087797525361508715091505779493505210552948445163486289797539255481010182, (.carry [.tmp 5 false [(.dat (.int .i64))], .mix 3 [(.own 10000038 5 (.int .u8))], .dead 10000042])), (27661010798878815335942035236679741930762323471614922821223245261570067, (.carry [.mix 3 [(.own 10000041 5 (.int .u8))], .dead 84])), (3712598023608979541721696709163097225573252364361227431959934159794700105811974, (.carry [.tmp 5 false [(.dat (.int .i64))], .mix 3 [(.own 10000040 5 (.int .u8))], .dead 84])), (27661010798878815335942035236679741930762323471614922821223245261570579, (.carry [.mix 3 [(.own 10000048 5 (.int .u8))], .dead 10000041])), (3712598023608979541721696709163097225573252364361227431959934159794768825288710, (.carry [.tmp 5 false [(.dat (.int .i64))], .mix 3 [(.own 10000046 5 (.int .u8))], .dead 10000041])), (11440325928226245935058198299148986455232348180, (.carry [.mix 3 [(.own 10000052 5 (.int .u8))], .dead 10000050])), (1535494553666017799372746923485241295524059484824799238, (.carry [.tmp 5 false [(.dat (.int .i64))], .mix 3 [(.own 10000051 5 (.int .u8))], .dead 10000050])), (11440325928226245935058198299148986455232348673, (.carry [.mix 3 [(.own 10000059 5 (.int .u8))], .dead 10000052])), (1535494553666017799372746923485241295524059550859921414, (.carry [.tmp 92 false [(.dat (.int .i64))], .mix 3 [(.own 10000053 5 (.int .u8))], .dead 10000052])), (7251168014861288167425188885084174268697924675101011819053893073350177587219, (.carry [.mix 3 [(.own 10000057 5 (.int .u8))], .dead 10000053])), (973235296300952332985092462126850959100696968207195976854560637859998184153056282630, (.carry [.tmp 5 false [(.dat (.int .i64))], .mix 3 [(.own 10000055 5 (.int .u8))], .dead 10000053]))]
noncomputable def registrar_EncodeAct : (Int × ((List UInt8) × ((List UInt8) × (Int × (Bool × ((List ((List UInt8) × (Int × Int))) × (Int × ((List UInt8) × (Int × (List (List UInt8))))))))))) → Option ((List Int) × Int) := fun (a1, (a2, (a3, (a4, (a5, (a6, (a7, (a8, (a9, a10))))))))) =>
 joinO (bindO (registrar_Formed (a2, (a3, (a4, (a5, (a6, (a7, (a8, (a9, a10))))))))) fun x11 =>
 bif (!x11) then
 outO (some (([] : List Int), (2 : Int)))
 else
 bif (decide (a1 < (0 : Int))) then
 outO (some (([] : List Int), (2 : Int)))
 else
 bif (decide (a1 > (1099511627776 : Int))) then
 outO (some (([] : List Int), (2 : Int)))
 else
 some (Sum.inl ())) fun _ =>
 joinO (loopO (fun (v12, v13) =>
 bif (decide (v12 ≥ (0 : Int))) then
 bindO (some (Go.IntKind.wrap .i64 ((8 : Int) * v12))) fun x15 =>
 bif (decide ((0 : Int) ≤ x15)) then 
 bindO (some (Int.fdiv (Go.IntKind.wrap .u64 a1) ((2 : Int) ^ (Min.min (Int.toNat x15) 64)))) fun x16 =>
 bif (decide ((List.length v13) ≤ (List.length v13))) then 
 bif (decide (((List.length ((List.take (List.length v13) v13) ++ ((Go.IntKind.wrap .u8 x16) :: ([] : List Int)))) * 1) ≤ 140737488355328)) then 
 bindO (some ((List.take (List.length v13) v13) ++ ((Go.IntKind.wrap .u8 x16) :: ([] : List Int)))) fun x18 =>
 bif (decide ((List.length x18) ≤ (List.length x18))) then 
 some (Sum.inl ((Go.IntKind.wrap .i64 (v12 - (1 : Int))), (List.take (List.length x18) x18)))
 else none
 else none
 else none
 else none
 else
 outO (bif (decide ((List.length v13) ≤ (List.length v13))) then 
 some (Sum.inl (List.take (List.length v13) v13))
 else none)) ((7 : Int), ([] : List Int))) fun v20 =>
 joinO (bif (decide ((List.length v20) ≤ (List.length v20))) then 
 loopO (fun (v21, v22) =>
 bif (decide (v21 ≥ (0 : Int))) then
 bindO (some (Go.IntKind.wrap .i64 ((8 : Int) * v21))) fun x24 =>
 bif (decide ((0 : Int) ≤ x24)) then 
 bindO (some (Int.fdiv (Go.IntKind.wrap .u64 (((List.length a2) : Nat) : Int)) ((2 : Int) ^ (Min.min (Int.toNat x24) 64)))) fun x25 =>
 bif (decide ((List.length v22) ≤ (List.length v22))) then 
 bif (decide (((List.length ((List.take (List.length v22) v22) ++ ((Go.IntKind.wrap .u8 x25) :: ([] : List Int)))) * 1) ≤ 140737488355328)) then 
 bindO (some ((List.take (List.length v22) v22) ++ ((Go.IntKind.wrap .u8 x25) :: ([] : List Int)))) fun x27 =>
 bif (decide ((List.length x27) ≤ (List.length x27))) then 
 some (Sum.inl ((Go.IntKind.wrap .i64 (v21 - (1 : Int))), (List.take (List.length x27) x27)))
 else none
 else none
 else none
 else none
 else
 outO (bif (decide ((List.length v22) ≤ (List.length v22))) then 
 some (Sum.inl (List.take (List.length v22) v22))
 else none)) ((1 : Int), (List.take (List.length v20) v20))
 else none) fun v29 =>
 bif (decide ((List.length v29) ≤ (List.length v29))) then 
 bif (decide (((List.length ((List.take (List.length v29) v29) ++ (List.map (fun (x30 : UInt8) => (((UInt8.toNat x30) : Nat) : Int)) a2))) * 1) ≤ 140737488355328)) then 
 bindO (some ((List.take (List.length v29) v29) ++ (List.map (fun (x32 : UInt8) => (((UInt8.toNat x32) : Nat) : Int)) a2))) fun x31 =>
 joinO (bif (decide ((List.length x31) ≤ (List.length x31))) then 
 loopO (fun (v33, v34) =>
 bif (decide (v33 ≥ (0 : Int))) then
 bindO (some (Go.IntKind.wrap .i64 ((8 : Int) * v33))) fun x36 =>
 bif (decide ((0 : Int) ≤ x36)) then 
 bindO (some (Int.fdiv (Go.IntKind.wrap .u64 (((List.length a3) : Nat) : Int)) ((2 : Int) ^ (Min.min (Int.toNat x36) 64)))) fun x37 =>
 bif (decide ((List.length v34) ≤ (List.length v34))) then 
 bif (decide (((List.length ((List.take (List.length v34) v34) ++ ((Go.IntKind.wrap .u8 x37) :: ([] : List Int)))) * 1) ≤ 140737488355328)) then 
 bindO (some ((List.take (List.length v34) v34) ++ ((Go.IntKind.wrap .u8 x37) :: ([] : List Int)))) fun x39 =>
 bif (decide ((List.length x39) ≤ (List.length x39))) then 
 some (Sum.inl ((Go.IntKind.wrap .i64 (v33 - (1 : Int))), (List.take (List.length x39) x39)))
 else none
 else none
 else none
 else none
 else
 outO (bif (decide ((List.length v34) ≤ (List.length v34))) then 
 some (Sum.inl (List.take (List.length v34) v34))
 else none)) ((1 : Int), (List.take (List.length x31) x31))
 else none) fun v41 =>
 bif (decide ((List.length v41) ≤ (List.length v41))) then 
 bif (decide (((List.length ((List.take (List.length v41) v41) ++ (List.map (fun (x42 : UInt8) => (((UInt8.toNat x42) : Nat) : Int)) a3))) * 1) ≤ 140737488355328)) then 
 bindO (some ((List.take (List.length v41) v41) ++ (List.map (fun (x44 : UInt8) => (((UInt8.toNat x44) : Nat) : Int)) a3))) fun x43 =>
 joinO (bif (decide ((List.length x43) ≤ (List.length x43))) then 
 loopO (fun (v45, v46) =>
 bif (decide (v45 ≥ (0 : Int))) then
 bindO (some (Go.IntKind.wrap .i64 ((8 : Int) * v45))) fun x48 =>
 bif (decide ((0 : Int) ≤ x48)) then 
 bindO (some (Int.fdiv (Go.IntKind.wrap .u64 a4) ((2 : Int) ^ (Min.min (Int.toNat x48) 64)))) fun x49 =>
 bif (decide ((List.length v46) ≤ (List.length v46))) then 
 bif (decide (((List.length ((List.take (List.length v46) v46) ++ ((Go.IntKind.wrap .u8 x49) :: ([] : List Int)))) * 1) ≤ 140737488355328)) then 
 bindO (some ((List.take (List.length v46) v46) ++ ((Go.IntKind.wrap .u8 x49) :: ([] : List Int)))) fun x51 =>
 bif (decide ((List.length x51) ≤ (List.length x51))) then 
 some (Sum.inl ((Go.IntKind.wrap .i64 (v45 - (1 : Int))), (List.take (List.length x51) x51)))
 else none
 else none
 else none
 else none
 else
 outO (bif (decide ((List.length v46) ≤ (List.length v46))) then 
 some (Sum.inl (List.take (List.length v46) v46))
 else none)) ((3 : Int), (List.take (List.length x43) x43))
 else none) fun v53 =>
 joinO (bif a5 then
 joinO (bif (decide ((List.length v53) ≤ (List.length v53))) then 
 loopO (fun (v54, v55) =>
 bif (decide (v54 ≥ (0 : Int))) then
 bindO (some (Go.IntKind.wrap .i64 ((8 : Int) * v54))) fun x56 =>
 bif (decide ((0 : Int) ≤ x56)) then 
 bindO (some (Int.fdiv (1 : Int) ((2 : Int) ^ (Min.min (Int.toNat x56) 64)))) fun x57 =>
 bif (decide ((List.length v55) ≤ (List.length v55))) then 
 bif (decide (((List.length ((List.take (List.length v55) v55) ++ ((Go.IntKind.wrap .u8 x57) :: ([] : List Int)))) * 1) ≤ 140737488355328)) then 
 bindO (some ((List.take (List.length v55) v55) ++ ((Go.IntKind.wrap .u8 x57) :: ([] : List Int)))) fun x59 =>
 bif (decide ((List.length x59) ≤ (List.length x59))) then 
 some (Sum.inl ((Go.IntKind.wrap .i64 (v54 - (1 : Int))), (List.take (List.length x59) x59)))
 else none
 else none
 else none
 else none
 else
 outO (bif (decide ((List.length v55) ≤ (List.length v55))) then 
 some (Sum.inl (List.take (List.length v55) v55))
 else none)) ((0 : Int), (List.take (List.length v53) v53))
 else none) fun v61 =>
 bif (decide ((List.length v61) ≤ (List.length v61))) then 
 some (Sum.inl (List.take (List.length v61) v61))
 else none
 else
 joinO (bif (decide ((List.length v53) ≤ (List.length v53))) then 
 loopO (fun (v62, v63) =>
 bif (decide (v62 ≥ (0 : Int))) then
 bindO (some (Go.IntKind.wrap .i64 ((8 : Int) * v62))) fun x64 =>
 bif (decide ((0 : Int) ≤ x64)) then 
 bindO (some (Int.fdiv (0 : Int) ((2 : Int) ^ (Min.min (Int.toNat x64) 64)))) fun x65 =>
 bif (decide ((List.length v63) ≤ (List.length v63))) then 
 bif (decide (((List.length ((List.take (List.length v63) v63) ++ ((Go.IntKind.wrap .u8 x65) :: ([] : List Int)))) * 1) ≤ 140737488355328)) then 
 bindO (some ((List.take (List.length v63) v63) ++ ((Go.IntKind.wrap .u8 x65) :: ([] : List Int)))) fun x67 =>
 bif (decide ((List.length x67) ≤ (List.length x67))) then 
 some (Sum.inl ((Go.IntKind.wrap .i64 (v62 - (1 : Int))), (List.take (List.length x67) x67)))
 else none
 else none
 else none
 else none
 else
 outO (bif (decide ((List.length v63) ≤ (List.length v63))) then 
 some (Sum.inl (List.take (List.length v63) v63))
 else none)) ((0 : Int), (List.take (List.length v53) v53))
 else none) fun v69 =>
 bif (decide ((List.length v69) ≤ (List.length v69))) then 
 some (Sum.inl (List.take (List.length v69) v69))
 else none) fun v70 =>
 joinO (bif (decide ((List.length v70) ≤ (List.length v70))) then 
 loopO (fun (v71, v72) =>
 bif (decide (v71 ≥ (0 : Int))) then
 bindO (some (Go.IntKind.wrap .i64 ((8 : Int) * v71))) fun x74 =>
 bif (decide ((0 : Int) ≤ x74)) then 
 bindO (some (Int.fdiv (Go.IntKind.wrap .u64 a7) ((2 : Int) ^ (Min.min (Int.toNat x74) 64)))) fun x75 =>
 bif (decide ((List.length v72) ≤ (List.length v72))) then 
 bif (decide (((List.length ((List.take (List.length v72) v72) ++ ((Go.IntKind.wrap .u8 x75) :: ([] : List Int)))) * 1) ≤ 140737488355328)) then 
 bindO (some ((List.take (List.length v72) v72) ++ ((Go.IntKind.wrap .u8 x75) :: ([] : List Int)))) fun x77 =>
 bif (decide ((List.length x77) ≤ (List.length x77))) then 
 some (Sum.inl ((Go.IntKind.wrap .i64 (v71 - (1 : Int))), (List.take (List.length x77) x77)))
 else none
 else none
 else none
 else none
 else
 outO (bif (decide ((List.length v72) ≤ (List.length v72))) then 
 some (Sum.inl (List.take (List.length v72) v72))
 else none)) ((3 : Int), (List.take (List.length v70) v70))
 else none) fun v79 =>
 joinO (bif (decide ((List.length v79) ≤ (List.length v79))) then 
 loopO (fun (v80, v81) =>
 bif (decide (v80 ≥ (0 : Int))) then
 bindO (some (Go.IntKind.wrap .i64 ((8 : Int) * v80))) fun x83 =>
 bif (decide ((0 : Int) ≤ x83)) then 
 bindO (some (Int.fdiv (Go.IntKind.wrap .u64 (((List.length a8) : Nat) : Int)) ((2 : Int) ^ (Min.min (Int.toNat x83) 64)))) fun x84 =>
 bif (decide ((List.length v81) ≤ (List.length v81))) then 
 bif (decide (((List.length ((List.take (List.length v81) v81) ++ ((Go.IntKind.wrap .u8 x84) :: ([] : List Int)))) * 1) ≤ 140737488355328)) then 
 bindO (some ((List.take (List.length v81) v81) ++ ((Go.IntKind.wrap .u8 x84) :: ([] : List Int)))) fun x86 =>
 bif (decide ((List.length x86) ≤ (List.length x86))) then 
 some (Sum.inl ((Go.IntKind.wrap .i64 (v80 - (1 : Int))), (List.take (List.length x86) x86)))
 else none
 else none
 else none
 else none
 else
 outO (bif (decide ((List.length v81) ≤ (List.length v81))) then 
 some (Sum.inl (List.take (List.length v81) v81))
 else none)) ((1 : Int), (List.take (List.length v79) v79))
 else none) fun v88 =>
 bif (decide ((List.length v88) ≤ (List.length v88))) then 
 bif (decide (((List.length ((List.take (List.length v88) v88) ++ (List.map (fun (x89 : UInt8) => (((UInt8.toNat x89) : Nat) : Int)) a8))) * 1) ≤ 140737488355328)) then 
 bindO (some ((List.take (List.length v88) v88) ++ (List.map (fun (x91 : UInt8) => (((UInt8.toNat x91) : Nat) : Int)) a8))) fun x90 =>
 joinO (bif (decide ((List.length x90) ≤ (List.length x90))) then 
 loopO (fun (v92, v93) =>
 bif (decide (v92 ≥ (0 : Int))) then
 bindO (some (Go.IntKind.wrap .i64 ((8 : Int) * v92))) fun x95 =>
 bif (decide ((0 : Int) ≤ x95)) then 
 bindO (some (Int.fdiv (Go.IntKind.wrap .u64 a9) ((2 : Int) ^ (Min.min (Int.toNat x95) 64)))) fun x96 =>
 bif (decide ((List.length v93) ≤ (List.length v93))) then 
 bif (decide (((List.length ((List.take (List.length v93) v93) ++ ((Go.IntKind.wrap .u8 x96) :: ([] : List Int)))) * 1) ≤ 140737488355328)) then 
 bindO (some ((List.take (List.length v93) v93) ++ ((Go.IntKind.wrap .u8 x96) :: ([] : List Int)))) fun x98 =>
 bif (decide ((List.length x98) ≤ (List.length x98))) then 
 some (Sum.inl ((Go.IntKind.wrap .i64 (v92 - (1 : Int))), (List.take (List.length x98) x98)))
 else none
 else none
 else none
 else none
 else
 outO (bif (decide ((List.length v93) ≤ (List.length v93))) then 
 some (Sum.inl (List.take (List.length v93) v93))
 else none)) ((3 : Int), (List.take (List.length x90) x90))
 else none) fun v100 =>
 joinO (bif (decide ((List.length v100) ≤ (List.length v100))) then 
 loopO (fun (v101, v102) =>
 bif (decide (v101 ≥ (0 : Int))) then
 bindO (some (Go.IntKind.wrap .i64 ((8 : Int) * v101))) fun x104 =>
 bif (decide ((0 : Int) ≤ x104)) then 
 bindO (some (Int.fdiv (Go.IntKind.wrap .u64 (((List.length a6) : Nat) : Int)) ((2 : Int) ^ (Min.min (Int.toNat x104) 64)))) fun x105 =>
 bif (decide ((List.length v102) ≤ (List.length v102))) then 
 bif (decide (((List.length ((List.take (List.length v102) v102) ++ ((Go.IntKind.wrap .u8 x105) :: ([] : List Int)))) * 1) ≤ 140737488355328)) then 
 bindO (some ((List.take (List.length v102) v102) ++ ((Go.IntKind.wrap .u8 x105) :: ([] : List Int)))) fun x107 =>
 bif (decide ((List.length x107) ≤ (List.length x107))) then 
 some (Sum.inl ((Go.IntKind.wrap .i64 (v101 - (1 : Int))), (List.take (List.length x107) x107)))
 else none
 else none
 else none
 else none
 else
 outO (bif (decide ((List.length v102) ≤ (List.length v102))) then 
 some (Sum.inl (List.take (List.length v102) v102))
 else none)) ((0 : Int), (List.take (List.length v100) v100))
 else none) fun v109 =>
 joinO (bif (decide ((List.length v109) ≤ (List.length v109))) then 
 loopO (fun (v110, v111) =>
 bif (decide (v110 < (((List.length a6) : Nat) : Int))) then
 bif (decide (((0 : Int) ≤ v110) ∧ (v110 < (((List.length a6) : Nat) : Int)))) then 
 bindO a6[(Int.toNat v110)]? fun x112 =>
 joinO (bif (decide ((List.length v111) ≤ (List.length v111))) then 
 loopO (fun (v113, v114) =>
 bif (decide (v113 ≥ (0 : Int))) then
 bindO (some (Go.IntKind.wrap .i64 ((8 : Int) * v113))) fun x116 =>
 bif (decide ((0 : Int) ≤ x116)) then 
 bindO (some (Int.fdiv (Go.IntKind.wrap .u64 (((List.length x112.1) : Nat) : Int)) ((2 : Int) ^ (Min.min (Int.toNat x116) 64)))) fun x117 =>
 bif (decide ((List.length v114) ≤ (List.length v114))) then 
 bif (decide (((List.length ((List.take (List.length v114) v114) ++ ((Go.IntKind.wrap .u8 x117) :: ([] : List Int)))) * 1) ≤ 140737488355328)) then 
 bindO (some ((List.take (List.length v114) v114) ++ ((Go.IntKind.wrap .u8 x117) :: ([] : List Int)))) fun x119 =>
 bif (decide ((List.length x119) ≤ (List.length x119))) then 
 some (Sum.inl ((Go.IntKind.wrap .i64 (v113 - (1 : Int))), (List.take (List.length x119) x119)))
 else none
 else none
 else none
 else none
 else
 outO (bif (decide ((List.length v114) ≤ (List.length v114))) then 
 some (Sum.inl (List.take (List.length v114) v114))
 else none)) ((1 : Int), (List.take (List.length v111) v111))
 else none) fun v121 =>
 bif (decide ((List.length v121) ≤ (List.length v121))) then 
 bif (decide (((List.length ((List.take (List.length v121) v121) ++ (List.map (fun (x122 : UInt8) => (((UInt8.toNat x122) : Nat) : Int)) x112.1))) * 1) ≤ 140737488355328)) then 
 bindO (some ((List.take (List.length v121) v121) ++ (List.map (fun (x124 : UInt8) => (((UInt8.toNat x124) : Nat) : Int)) x112.1))) fun x123 =>
 joinO (bif (decide ((List.length x123) ≤ (List.length x123))) then 
 loopO (fun (v125, v126) =>
 bif (decide (v125 ≥ (0 : Int))) then
 bindO (some (Go.IntKind.wrap .i64 ((8 : Int) * v125))) fun x128 =>
 bif (decide ((0 : Int) ≤ x128)) then 
 bindO (some (Int.fdiv (Go.IntKind.wrap .u64 x112.2.1) ((2 : Int) ^ (Min.min (Int.toNat x128) 64)))) fun x129 =>
 bif (decide ((List.length v126) ≤ (List.length v126))) then 
 bif (decide (((List.length ((List.take (List.length v126) v126) ++ ((Go.IntKind.wrap .u8 x129) :: ([] : List Int)))) * 1) ≤ 140737488355328)) then 
 bindO (some ((List.take (List.length v126) v126) ++ ((Go.IntKind.wrap .u8 x129) :: ([] : List Int)))) fun x131 =>
 bif (decide ((List.length x131) ≤ (List.length x131))) then 
 some (Sum.inl ((Go.IntKind.wrap .i64 (v125 - (1 : Int))), (List.take (List.length x131) x131)))
 else none
 else none
 else none
 else none
 else
 outO (bif (decide ((List.length v126) ≤ (List.length v126))) then 
 some (Sum.inl (List.take (List.length v126) v126))
 else none)) ((1 : Int), (List.take (List.length x123) x123))
 else none) fun v133 =>
 joinO (bif (decide ((List.length v133) ≤ (List.length v133))) then 
 loopO (fun (v134, v135) =>
 bif (decide (v134 ≥ (0 : Int))) then
 bindO (some (Go.IntKind.wrap .i64 ((8 : Int) * v134))) fun x137 =>
 bif (decide ((0 : Int) ≤ x137)) then 
 bindO (some (Int.fdiv (Go.IntKind.wrap .u64 x112.2.2) ((2 : Int) ^ (Min.min (Int.toNat x137) 64)))) fun x138 =>
 bif (decide ((List.length v135) ≤ (List.length v135))) then 
 bif (decide (((List.length ((List.take (List.length v135) v135) ++ ((Go.IntKind.wrap .u8 x138) :: ([] : List Int)))) * 1) ≤ 140737488355328)) then 
 bindO (some ((List.take (List.length v135) v135) ++ ((Go.IntKind.wrap .u8 x138) :: ([] : List Int)))) fun x140 =>
 bif (decide ((List.length x140) ≤ (List.length x140))) then 
 some (Sum.inl ((Go.IntKind.wrap .i64 (v134 - (1 : Int))), (List.take (List.length x140) x140)))
 else none
 else none
 else none
 else none
 else
 outO (bif (decide ((List.length v135) ≤ (List.length v135))) then 
 some (Sum.inl (List.take (List.length v135) v135))
 else none)) ((3 : Int), (List.take (List.length v133) v133))
 else none) fun v142 =>
 bif (decide ((List.length v142) ≤ (List.length v142))) then 
 some (Sum.inl ((Go.IntKind.wrap .i64 (v110 + (1 : Int))), (List.take (List.length v142) v142)))
 else none
 else none
 else none
 else none
 else
 outO (bif (decide ((List.length v111) ≤ (List.length v111))) then 
 some (Sum.inl (List.take (List.length v111) v111))
 else none)) ((0 : Int), (List.take (List.length v109) v109))
 else none) fun v144 =>
 joinO (bif (decide ((List.length v144) ≤ (List.length v144))) then 
 loopO (fun (v145, v146) =>
 bif (decide (v145 ≥ (0 : Int))) then
 bindO (some (Go.IntKind.wrap .i64 ((8 : Int) * v145))) fun x148 =>
 bif (decide ((0 : Int) ≤ x148)) then 
 bindO (some (Int.fdiv (Go.IntKind.wrap .u64 (((List.length a10) : Nat) : Int)) ((2 : Int) ^ (Min.min (Int.toNat x148) 64)))) fun x149 =>
 bif (decide ((List.length v146) ≤ (List.length v146))) then 
 bif (decide (((List.length ((List.take (List.length v146) v146) ++ ((Go.IntKind.wrap .u8 x149) :: ([] : List Int)))) * 1) ≤ 140737488355328)) then 
 bindO (some ((List.take (List.length v146) v146) ++ ((Go.IntKind.wrap .u8 x149) :: ([] : List Int)))) fun x151 =>
 bif (decide ((List.length x151) ≤ (List.length x151))) then 
 some (Sum.inl ((Go.IntKind.wrap .i64 (v145 - (1 : Int))), (List.take (List.length x151) x151)))
 else none
 else none
 else none
 else none
 else
 outO (bif (decide ((List.length v146) ≤ (List.length v146))) then 
 some (Sum.inl (List.take (List.length v146) v146))
 else none)) ((0 : Int), (List.take (List.length v144) v144))
 else none) fun v153 =>
 joinO (bif (decide ((List.length v153) ≤ (List.length v153))) then 
 loopO (fun (v154, v155) =>
 bif (decide (v154 < (((List.length a10) : Nat) : Int))) then
 bif (decide (((0 : Int) ≤ v154) ∧ (v154 < (((List.length a10) : Nat) : Int)))) then 
 bindO a10[(Int.toNat v154)]? fun x156 =>
 joinO (bif (decide ((List.length v155) ≤ (List.length v155))) then 
 loopO (fun (v157, v158) =>
 bif (decide (v157 ≥ (0 : Int))) then
 bindO (some (Go.IntKind.wrap .i64 ((8 : Int) * v157))) fun x160 =>
 bif (decide ((0 : Int) ≤ x160)) then 
 bindO (some (Int.fdiv (Go.IntKind.wrap .u64 (((List.length x156) : Nat) : Int)) ((2 : Int) ^ (Min.min (Int.toNat x160) 64)))) fun x161 =>
 bif (decide ((List.length v158) ≤ (List.length v158))) then 
 bif (decide (((List.length ((List.take (List.length v158) v158) ++ ((Go.IntKind.wrap .u8 x161) :: ([] : List Int)))) * 1) ≤ 140737488355328)) then 
 bindO (some ((List.take (List.length v158) v158) ++ ((Go.IntKind.wrap .u8 x161) :: ([] : List Int)))) fun x163 =>
 bif (decide ((List.length x163) ≤ (List.length x163))) then 
 some (Sum.inl ((Go.IntKind.wrap .i64 (v157 - (1 : Int))), (List.take (List.length x163) x163)))
 else none
 else none
 else none
 else none
 else
 outO (bif (decide ((List.length v158) ≤ (List.length v158))) then 
 some (Sum.inl (List.take (List.length v158) v158))
 else none)) ((1 : Int), (List.take (List.length v155) v155))
 else none) fun v165 =>
 bif (decide ((List.length v165) ≤ (List.length v165))) then 
 bif (decide (((List.length ((List.take (List.length v165) v165) ++ (List.map (fun (x166 : UInt8) => (((UInt8.toNat x166) : Nat) : Int)) x156))) * 1) ≤ 140737488355328)) then 
 bindO (some ((List.take (List.length v165) v165) ++ (List.map (fun (x168 : UInt8) => (((UInt8.toNat x168) : Nat) : Int)) x156))) fun x167 =>
 bif (decide ((List.length x167) ≤ (List.length x167))) then 
 some (Sum.inl ((Go.IntKind.wrap .i64 (v154 + (1 : Int))), (List.take (List.length x167) x167)))
 else none
 else none
 else none
 else none
 else
 outO (bif (decide ((List.length v155) ≤ (List.length v155))) then 
 some (Sum.inl (List.take (List.length v155) v155))
 else none)) ((0 : Int), (List.take (List.length v153) v153))
 else none) fun v170 =>
 bif (decide ((((List.length v170) : Nat) : Int) > (4096 : Int))) then
 some (([] : List Int), (4 : Int))
 else
 bif (decide ((List.length v170) ≤ (List.length v170))) then 
 some ((List.take (List.length v170) v170), (0 : Int))
 else none
 else none
 else none
 else none
 else none
 else none
 else none
noncomputable def cons22 : List (Nat × CE) := [(9, ⟨[], riB, (fun _ => some true)⟩), (34, ⟨[(.tmp 0 false [(.dat (.int .i64))]), (.tmp 1 false [(.dat (.int .i64))]), (.tmp 2 false [(.dat (.int .i64))])], [(.tmp 0 false [(.dat .bool)])], registrar_within⟩), (10, ⟨[(.tmp 0 true [(.dat (.int .i64)), (.dat (.int .i64)), (.dat (.int .i64)), (.dat (.int .i64))])], [(.tmp 0 false [(.dat .bool)])], registrar_Valid⟩), (12, ⟨[(.tmp 0 true [(.dat .str), (.dat .str), (.dat (.int .i64)), (.dat .bool), (.dat (.list (.pair .str (.pair (.int .i64) (.int .i64))))), (.dat (.int .i64)), (.dat .str), (.dat (.int .i64)), (.dat (.list .str))])], [(.tmp 0 false [(.dat .bool)])], registrar_Formed⟩), (33, ⟨[(.tmp 0 false [(.dat (.int .i64))]), (.tmp 1 false [(.dat (.int .i64))]), (.tmp 2 false [(.dat (.int .i64))])], [(.tmp 0 false [(.dat .bool)])], dialtoneref22_within⟩), (11, ⟨[(.tmp 0 true [(.dat (.int .i64)), (.dat (.int .i64)), (.dat (.int .i64)), (.dat (.int .i64))])], [(.tmp 0 false [(.dat .bool)])], dialtoneref22_Valid⟩), (39, ⟨[(.tmp 0 true [(.dat .str), (.dat .str), (.dat (.int .i64)), (.dat .bool), (.dat (.list (.pair .str (.pair (.int .i64) (.int .i64))))), (.dat (.int .i64)), (.dat .str), (.dat (.int .i64)), (.dat (.list .str))])], [(.tmp 0 false [(.dat .bool)])], dialtoneref22_contacts⟩), (13, ⟨[(.tmp 0 true [(.dat .str), (.dat .str), (.dat (.int .i64)), (.dat .bool), (.dat (.list (.pair .str (.pair (.int .i64) (.int .i64))))), (.dat (.int .i64)), (.dat .str), (.dat (.int .i64)), (.dat (.list .str))])], [(.tmp 0 false [(.dat .bool)])], dialtoneref22_Formed⟩), (8, ⟨[(.tmp 0 true [(.dat .str), (.dat .str), (.dat (.int .i64)), (.dat .bool), (.dat (.list (.pair .str (.pair (.int .i64) (.int .i64))))), (.dat (.int .i64)), (.dat .str), (.dat (.int .i64)), (.dat (.list .str))])], [(.tmp 0 false [(.dat .bool)])], dialtonelaw22_few⟩), (3, ⟨[(.tmp 0 true [(.dat (.int .i64)), (.dat (.int .i64)), (.dat (.int .i64)), (.dat (.int .i64))]), (.tmp 1 true [(.dat .str), (.dat .str), (.dat (.int .i64)), (.dat .bool), (.dat (.list (.pair .str (.pair (.int .i64) (.int .i64))))), (.dat (.int .i64)), (.dat .str), (.dat (.int .i64)), (.dat (.list .str))])], [(.tmp 0 false [(.dat .bool)])], dialtonelaw22_RegistrarForms⟩)]
theorem cons22_ok : ConL Try.prog cons22 := ⟨con_true (by kernel_rfl) lives_o, con34, con10, con12, con33, con11, con39, con13, con8, con3, trivial⟩
theorem con22 : ConOk Try.prog 22 ⟨[(.tmp 0 false [(.dat (.int .i64))]), (.tmp 1 true [(.dat .str), (.dat .str), (.dat (.int .i64)), (.dat .bool), (.dat (.list (.pair .str (.pair (.int .i64) (.int .i64))))), (.dat (.int .i64)), (.dat .str), (.dat (.int .i64)), (.dat (.list .str))])], [(.tmp 0 false [(.dat (.list (.int .u8)))]), (.tmp 1 false [(.dat (.int .u8))])], registrar_EncodeAct⟩ :=
  tree_ok (plan := planOf plan22) (eg := egNo) KK tabL_ok (conOf_ok cons22_ok) Try.func22 (by kernel_rfl) (by kernel_rfl) 10000 (fun a r h => Eq.trans (show _ = registrar_EncodeAct a from by kernel_rfl) h)
def plan60 : List (Nat × PL) := []
noncomputable def registrar_signed : Int → Option Int := fun a1 =>
 bif (decide (a1 = (4294967295 : Int))) then
 some (-1 : Int)
 else
 some (Go.IntKind.wrap .i64 a1)
noncomputable def cons60 : List (Nat × CE) := [(9, ⟨[], riB, (fun _ => some true)⟩), (34, ⟨[(.tmp 0 false [(.dat (.int .i64))]), (.tmp 1 false [(.dat (.int .i64))]), (.tmp 2 false [(.dat (.int .i64))])], [(.tmp 0 false [(.dat .bool)])], registrar_within⟩), (10, ⟨[(.tmp 0 true [(.dat (.int .i64)), (.dat (.int .i64)), (.dat (.int .i64)), (.dat (.int .i64))])], [(.tmp 0 false [(.dat .bool)])], registrar_Valid⟩), (12, ⟨[(.tmp 0 true [(.dat .str), (.dat .str), (.dat (.int .i64)), (.dat .bool), (.dat (.list (.pair .str (.pair (.int .i64) (.int .i64))))), (.dat (.int .i64)), (.dat .str), (.dat (.int .i64)), (.dat (.list .str))])], [(.tmp 0 false [(.dat .bool)])], registrar_Formed⟩), (33, ⟨[(.tmp 0 false [(.dat (.int .i64))]), (.tmp 1 false [(.dat (.int .i64))]), (.tmp 2 false [(.dat (.int .i64))])], [(.tmp 0 false [(.dat .bool)])], dialtoneref22_within⟩), (11, ⟨[(.tmp 0 true [(.dat (.int .i64)), (.dat (.int .i64)), (.dat (.int .i64)), (.dat (.int .i64))])], [(.tmp 0 false [(.dat .bool)])], dialtoneref22_Valid⟩), (39, ⟨[(.tmp 0 true [(.dat .str), (.dat .str), (.dat (.int .i64)), (.dat .bool), (.dat (.list (.pair .str (.pair (.int .i64) (.int .i64))))), (.dat (.int .i64)), (.dat .str), (.dat (.int .i64)), (.dat (.list .str))])], [(.tmp 0 false [(.dat .bool)])], dialtoneref22_contacts⟩), (13, ⟨[(.tmp 0 true [(.dat .str), (.dat .str), (.dat (.int .i64)), (.dat .bool), (.dat (.list (.pair .str (.pair (.int .i64) (.int .i64))))), (.dat (.int .i64)), (.dat .str), (.dat (.int .i64)), (.dat (.list .str))])], [(.tmp 0 false [(.dat .bool)])], dialtoneref22_Formed⟩), (8, ⟨[(.tmp 0 true [(.dat .str), (.dat .str), (.dat (.int .i64)), (.dat .bool), (.dat (.list (.pair .str (.pair (.int .i64) (.int .i64))))), (.dat (.int .i64)), (.dat .str), (.dat (.int .i64)), (.dat (.list .str))])], [(.tmp 0 false [(.dat .bool)])], dialtonelaw22_few⟩), (3, ⟨[(.tmp 0 true [(.dat (.int .i64)), (.dat (.int .i64)), (.dat (.int .i64)), (.dat (.int .i64))]), (.tmp 1 true [(.dat .str), (.dat .str), (.dat (.int .i64)), (.dat .bool), (.dat (.list (.pair .str (.pair (.int .i64) (.int .i64))))), (.dat (.int .i64)), (.dat .str), (.dat (.int .i64)), (.dat (.list .str))])], [(.tmp 0 false [(.dat .bool)])], dialtonelaw22_RegistrarForms⟩), (22, ⟨[(.tmp 0 false [(.dat (.int .i64))]), (.tmp 1 true [(.dat .str), (.dat .str), (.dat (.int .i64)), (.dat .bool), (.dat (.list (.pair .str (.pair (.int .i64) (.int .i64))))), (.dat (.int .i64)), (.dat .str), (.dat (.int .i64)), (.dat (.list .str))])], [(.tmp 0 false [(.dat (.list (.int .u8)))]), (.tmp 1 false [(.dat (.int .u8))])], registrar_EncodeAct⟩)]
theorem cons60_ok : ConL Try.prog cons60 := ⟨con_true (by kernel_rfl) lives_o, con34, con10, con12, con33, con11, con39, con13, con8, con3, con22, trivial⟩
theorem con60 : ConOk Try.prog 60 ⟨[(.tmp 0 false [(.dat (.int .u64))])], [(.tmp 0 false [(.dat (.int .i64))])], registrar_signed⟩ :=
  tree_ok (plan := planOf plan60) (eg := egNo) KK tabL_ok (conOf_ok cons60_ok) Try.func60 (by kernel_rfl) (by kernel_rfl) 10000 (fun a r h => Eq.trans (show _ = registrar_signed a from by kernel_rfl) h)
def plan24 : List (Nat × PL) := [(4731607904558235516945, (.carry [.tmp 0 false [(.dat (.int .u64))], .mix 4 [(.dat (.list (.int .u8)))], .mix 6 [(.dat (.int .u8))]])), (635065662736647214773263663617, (.carry [.tmp 4 false [(.dat (.int .u64))], .mix 4 [(.dat (.list (.int .u8)))], .mix 6 [(.dat (.int .u8))]])), (325153619321163373997929284239378, (.carry [.tmp 0 false [(.dat (.int .u64))], .mix 4 [(.dat (.list (.int .u8)))], .mix 6 [(.dat (.int .u8))]])), (166478653092435647469522429834952722, (.carry [.tmp 0 false [(.dat (.list (.int .u8)))], .mix 4 [(.dat (.list (.int .u8)))], .mix 6 [(.dat (.int .u8))]])), (43641380036263450374816345235275523555841, (.carry [.tmp 4 false [(.dat (.int .u64))], .mix 4 [(.dat (.list (.int .u8)))], .mix 6 [(.dat (.int .u8))]])), (11440325928226245935055856005356066847022120978, (.carry [.tmp 0 false [(.dat (.list (.int .u8)))], .mix 4 [(.dat (.list (.int .u8)))], .mix 6 [(.dat (.int .u8))]])), (85237070383327051504395484075496048646, (.carry [.tmp 11 false [(.dat (.int .i64))], .tmp 4 false [(.dat (.int .u64))]])), (325153619321163373997929284239380, (.carry [.tmp 0 false [(.dat (.list (.int .u8)))], .mix 4 [(.dat (.list (.int .u8)))], .mix 6 [(.dat (.int .u8))]])), (5857446875251837918748598274742306225675326195718, (.carry [.tmp 11 false [(.dat (.int .i64))], .tmp 4 false [(.dat (.int .u64))]])), (325153619321163373997929552674834, (.carry [.tmp 0 false [(.dat (.int .u64))], .mix 4 [(.dat (.list (.int .u8)))], .mix 6 [(.dat (.int .u8))]])), (43641380036263450374816381264072542519809, (.carry [.tmp 4 false [(.dat (.int .u64))], .mix 4 [(.dat (.list (.int .u8)))], .mix 6 [(.dat (.int .u8))]])), (11440325928226245935055865450089032586312548370, (.carry [.tmp 0 false [(.dat (.list (.int .u8)))], .mix 4 [(.dat (.list (.int .u8)))], .mix 6 [(.dat (.int .u8))]])), (325153619321163373997929552674836, (.carry [.tmp 0 false [(.dat (.list (.int .u8)))], .mix 4 [(.dat (.list (.int .u8)))], .mix 6 [(.dat (.int .u8))]])), (5857446875251837918748603110445584684192025020422, (.carry [.tmp 11 false [(.dat (.int .i64))], .tmp 4 false [(.dat (.int .u64))]])), (1240362622532514091484053521, (.carry [.tmp 0 false [(.dat (.int .u64))], .mix 4 [(.dat (.list (.int .u8)))], .mix 6 [(.dat (.int .u8))]])), (166478653092435647486973811819282945, (.carry [.tmp 4 false [(.dat (.int .u64))], .mix 4 [(.dat (.list (.int .u8)))], .mix 6 [(.dat (.int .u8))]])), (43641380036263450374825262925554108071954, (.carry [.tmp 0 false [(.dat (.list (.int .u8)))], .mix 4 [(.dat (.list (.int .u8)))], .mix 6 [(.dat (.int .u8))]])), (635065662736647214839835656209, (.carry [.tmp 0 false [(.dat (.int .u64))], .mix 4 [(.dat (.list (.int .u8)))], .mix 6 [(.dat (.int .u8))]])), (22344386578566886591910534617883703333095430, (.carry [.tmp 11 false [(.dat (.int .i64))], .tmp 4 false [(.dat (.int .u64))]])), (85237070383327051513330625669761335809, (.carry [.tmp 4 false [(.dat (.int .u64))], .mix 4 [(.dat (.list (.int .u8)))], .mix 6 [(.dat (.int .u8))]])), (22344386578566886591910543535573915614052370, (.carry [.tmp 0 false [(.dat (.list (.int .u8)))], .mix 4 [(.dat (.list (.int .u8)))], .mix 6 [(.dat (.int .u8))]])), (166478653092435647486973878391275537, (.carry [.tmp 0 false [(.dat (.int .u64))], .mix 4 [(.dat (.list (.int .u8)))], .mix 6 [(.dat (.int .u8))]])), (11440325928226245935058198290213844794395068422, (.carry [.tmp 11 false [(.dat (.int .i64))], .tmp 4 false [(.dat (.int .u64))]])), (22344386578566886591910543553025297598382593, (.carry [.tmp 4 false [(.dat (.int .u64))], .mix 4 [(.dat (.list (.int .u8)))], .mix 6 [(.dat (.int .u8))]])), (5857446875251837918749797529164263613630406197266, (.carry [.tmp 0 false [(.dat (.list (.int .u8)))], .mix 4 [(.dat (.list (.int .u8)))], .mix 6 [(.dat (.int .u8))]])), (11440325928226245935058198299148986388660355090, (.carry [.tmp 0 false [(.dat (.int .u64))], .mix 4 [(.dat (.list (.int .u8)))], .mix 6 [(.dat (.int .u8))]])), (2999012800128941014399896334932102970178767973255174, (.carry [.tmp 11 false [(.dat (.int .i64))], .tmp 4 false [(.dat (.int .u64))]])), (1535494553666017799372746923485241286588917823853298177, (.carry [.tmp 4 false [(.dat (.int .u64))], .mix 4 [(.dat (.list (.int .u8)))], .mix 6 [(.dat (.int .u8))]])), (402520684276224569998769369510115091831565274016198997049362, (.carry [.tmp 0 false [(.dat (.list (.int .u8)))], .mix 4 [(.dat (.list (.int .u8)))], .mix 6 [(.dat (.int .u8))]])), (11440325928226245935058198299148986388660355092, (.carry [.tmp 0 false [(.dat (.list (.int .u8)))], .mix 4 [(.dat (.list (.int .u8)))], .mix 6 [(.dat (.int .u8))]])), (206090590349426979839369917189178927017761420296293886489528326, (.carry [.tmp 11 false [(.dat (.int .i64))], .tmp 4 false [(.dat (.int .u64))]])), (43641380036263450374825280377002664394769, (.carry [.tmp 0 false [(.dat (.int .u64))], .mix 4 [(.dat (.list (.int .u8)))], .mix 6 [(.dat (.int .u8))]])), (5857446875251837918749797529164281065012390527489, (.carry [.tmp 4 false [(.dat (.int .u64))], .mix 4 [(.dat (.list (.int .u8)))], .mix 6 [(.dat (.int .u8))]])), (1535494553666017799372746923485241295506608102437814290, (.carry [.tmp 0 false [(.dat (.list (.int .u8)))], .mix 4 [(.dat (.list (.int .u8)))], .mix 6 [(.dat (.int .u8))]])), (43641380036263450374825280377002664395265, (.carry [.mix 24 [(.dat .str), (.dat .str), (.dat (.int .i64)), (.dat .bool), (.own 10000004 65 (.pair .str (.pair (.int .i64) (.int .i64)))), (.dat (.int .i64)), (.dat .str), (.dat (.int .i64)), .nil], .mix 4 [(.dat (.list (.int .u8)))], .mix 6 [(.dat (.int .u8))]])), (786173211477001113278846424824443543299383348448161171462, (.carry [.tmp 11 false [(.dat (.int .i64))], .tmp 4 false [(.dat (.int .u64))]])), (11440325928226245935058198299148986455232086033, (.carry [.tmp 0 false [(.dat (.int .u64))], .mix 4 [(.dat (.list (.int .u8)))], .mix 6 [(.dat (.int .u8))]])), (22344386578566886591910543553025364170375681, (.carry [.mix 24 [(.dat .str), (.dat .str), (.dat (.int .i64)), (.dat .bool), (.own 10000006 65 (.pair .str (.pair (.int .i64) (.int .i64)))), (.dat (.int .i64)), (.dat .str), (.dat (.int .i64)), (.own 10000002 9 .str)], .mix 4 [(.dat (.list (.int .u8)))], .mix 6 [(.dat (.int .u8))], .dead 10000004])), (1535494553666017799372746923485241295524024300050055681, (.carry [.tmp 4 false [(.dat (.int .u64))], .mix 4 [(.dat (.list (.int .u8)))], .mix 6 [(.dat (.int .u8))]])), (5857446875251837918749797529164281065078828304390, (.carry [.tmp 47 false [(.dat (.int .u64))], .mix 24 [(.dat .str), (.dat .str), (.dat (.int .i64)), (.dat .bool), (.own 10000003 65 (.pair .str (.pair (.int .i64) (.int .i64)))), (.dat (.int .i64)), (.dat .str), (.dat (.int .i64)), .nil], .mix 4 [(.dat (.list (.int .u8)))], .mix 6 [(.dat (.int .u8))]])), (5857446875251837918749797529164281065078962257937, (.carry [.tmp 0 false [(.dat (.int .u64))], .mix 4 [(.dat (.list (.int .u8)))], .mix 6 [(.dat (.int .u8))]])), (402520684276224569998769369510115094173849826112321796177938, (.carry [.tmp 0 false [(.dat (.list (.int .u8)))], .mix 4 [(.dat (.list (.int .u8)))], .mix 6 [(.dat (.int .u8))]])), (786173211477001113278846424824443543308318454858054369793, (.carry [.tmp 4 false [(.dat (.int .u64))], .mix 4 [(.dat (.list (.int .u8)))], .mix 6 [(.dat (.int .u8))]])), (2999012800128941014399896334932111905320428676319238, (.carry [.tmp 69 false [(.dat (.int .u64))], .mix 24 [(.dat .str), (.dat .str), (.dat (.int .i64)), (.dat .bool), (.own 10000005 65 (.pair .str (.pair (.int .i64) (.int .i64)))), (.dat (.int .i64)), (.dat .str), (.dat (.int .i64)), (.own 10000001 9 .str)], .mix 4 [(.dat (.list (.int .u8)))], .mix 6 [(.dat (.int .u8))], .dead 10000004])), (14162437529025953452002322041180027868550309617466840484466301507352133650, (.carry [.tmp 0 false [(.dat (.int .u64))], .mix 4 [(.dat (.list (.int .u8)))], .mix 6 [(.dat (.int .u8))]])), (206090590349426979839369917189178928217015833030309804714754066, (.carry [.tmp 0 false [(.dat (.list (.int .u8)))], .mix 4 [(.dat (.list (.int .u8)))], .mix 6 [(.dat (.int .u8))]])), (206090590349426979839369917189178928217011110969508759643359238, (.carry [.tmp 11 false [(.dat (.int .i64))], .tmp 4 false [(.dat (.int .u64))]])), (1900850188087797525361508715091505779493505210552948445163486280879778674455609857, (.carry [.tmp 4 false [(.dat (.int .u64))], .mix 4 [(.dat (.list (.int .u8)))], .mix 6 [(.dat (.int .u8))]])), (14162437529025953452002322041180027868550633498476566587794072858018447378, (.carry [.tmp 0 false [(.dat (.int .u64))], .mix 4 [(.dat (.list (.int .u8)))], .mix 6 [(.dat (.int .u8))]])), (498296471706087594488367340608947691059545429915192117208936947614948700836491390091282, (.carry [.tmp 0 false [(.dat (.list (.int .u8)))], .mix 4 [(.dat (.list (.int .u8)))], .mix 6 [(.dat (.int .u8))]])), (105518382258906613677757397600859611247112106511518620013954336774, (.carry [.tmp 11 false [(.dat (.int .i64))], .tmp 4 false [(.dat (.int .u64))]])), (1900850188087797525361508715091505779493548681126216228654432990869702589162979841, (.carry [.tmp 4 false [(.dat (.int .u64))], .mix 4 [(.dat (.list (.int .u8)))], .mix 6 [(.dat (.int .u8))]])), (14162437529025953452002322041180027868550309617466840484466301507352133652, (.carry [.tmp 0 false [(.dat (.list (.int .u8)))], .mix 4 [(.dat (.list (.int .u8)))], .mix 6 [(.dat (.int .u8))]])), (498296471706087594488367340608947691059556825465150827044387681958547315533540187176978, (.carry [.tmp 0 false [(.dat (.list (.int .u8)))], .mix 4 [(.dat (.list (.int .u8)))], .mix 6 [(.dat (.int .u8))]])), (255127793513516848378044078391781217822487260116578364010975717178853734828283591726991366, (.carry [.tmp 11 false [(.dat (.int .i64))], .tmp 4 false [(.dat (.int .u64))]])), (14162437529025953452002322041180027868550633498476566587794072858018447380, (.carry [.tmp 0 false [(.dat (.list (.int .u8)))], .mix 4 [(.dat (.list (.int .u8)))], .mix 6 [(.dat (.int .u8))]])), (54025411716560186203011787571640120958520163030497896135201650901009, (.carry [.tmp 0 false [(.dat (.int .u64))], .mix 4 [(.dat (.list (.int .u8)))], .mix 6 [(.dat (.int .u8))]])), (255127793513516848378044078391781217822493094638157223446726493162776225553172575834867718, (.carry [.tmp 11 false [(.dat (.int .i64))], .tmp 4 false [(.dat (.int .u64))]])), (7251168014861288167425188885084174268697758524143022328046746405782581150209, (.carry [.tmp 4 false [(.dat (.int .u64))], .mix 4 [(.dat (.list (.int .u8)))], .mix 6 [(.dat (.int .u8))]])), (1900850188087797525361508715091505779493505210552948445163486289797468953040125970, (.carry [.tmp 0 false [(.dat (.list (.int .u8)))], .mix 4 [(.dat (.list (.int .u8)))], .mix 6 [(.dat (.int .u8))]])), (27661010798878815335942035236679741930762323471614922821223245261570065, (.carry [.tmp 0 false [(.dat (.int .u64))], .mix 4 [(.dat (.list (.int .u8)))], .mix 6 [(.dat (.int .u8))]])), (973235296300952332985092462126850959100674667803109603923704980376304103956544751622, (.carry [.tmp 11 false [(.dat (.int .i64))], .tmp 4 false [(.dat (.int .u64))]])), (3712598023608979541721696709163097225573252364361227431959934159794699837374977, (.carry [.tmp 4 false [(.dat (.int .u64))], .mix 4 [(.dat (.list (.int .u8)))], .mix 6 [(.dat (.int .u8))]])), (973235296300952332985092462126850959100674667803109603923704980385221794168825708562, (.carry [.tmp 0 false [(.dat (.list (.int .u8)))], .mix 4 [(.dat (.list (.int .u8)))], .mix 6 [(.dat (.int .u8))]])), (498296471706087594488367340608947691059545429915192117208936949957233558614438763038726, (.carry [.tmp 11 false [(.dat (.int .i64))], .tmp 4 false [(.dat (.int .u64))]]))]
noncomputable def registrar_DecodeAct : (List Int) → Option (Int × (((List UInt8) × ((List UInt8) × (Int × (Bool × ((List ((List UInt8) × (Int × Int))) × (Int × ((List UInt8) × (Int × (List (List UInt8)))))))))) × Int)) := fun a1 =>
 joinO (joinO (joinO (bif (decide ((((List.length a1) : Nat) : Int) < (8 : Int))) then
 some (Sum.inl (([] : List Int), (a1, (6 : Int))))
 else
 bif ((decide (((0 : Int) ≤ (8 : Int)) ∧ ((8 : Int) ≤ (((List.length a1) : Nat) : Int)))) && Bool.true) then 
 bif (decide (((0 : Int) ≤ (8 : Int)) ∧ ((8 : Int) ≤ (((List.length a1) : Nat) : Int)))) then 
 some (Sum.inl ((List.take 8 a1), ((List.drop 8 a1), (0 : Int))))
 else none
 else none) fun (v4, (v5, v6)) =>
 loopO (fun (v7, v8) =>
 bif (decide (v7 < (((List.length v4) : Nat) : Int))) then
 bif (decide (((0 : Int) ≤ v7) ∧ (v7 < (((List.length v4) : Nat) : Int)))) then 
 bindO v4[(Int.toNat v7)]? fun x9 =>
 some (Sum.inl ((Go.IntKind.wrap .i64 (v7 + (1 : Int))), (Go.IntKind.wrap .u64 (((BitVec.toNat ((BitVec.ofInt 64 (Go.IntKind.wrap .u64 (v8 * (256 : Int)))) ||| (BitVec.ofInt 64 (Go.IntKind.wrap .u64 x9)))) : Nat) : Int))))
 else none
 else
 outO (some (Sum.inl (v8, (v5, v6))))) ((0 : Int), (0 : Int))) fun (v14, (v15, v16)) =>
 some (Sum.inl (v14, (v15, v16)))) fun (v17, (v18, v19)) =>
 joinO (joinO (joinO (bif (decide (v19 ≠ (0 : Int))) then
 some (Sum.inl (([] : List Int), (v18, (6 : Int))))
 else
 bif (decide ((((List.length v18) : Nat) : Int) < (2 : Int))) then
 some (Sum.inl (([] : List Int), (v18, (6 : Int))))
 else
 bif ((decide (((0 : Int) ≤ (2 : Int)) ∧ ((2 : Int) ≤ (((List.length v18) : Nat) : Int)))) && Bool.true) then 
 bif (decide (((0 : Int) ≤ (2 : Int)) ∧ ((2 : Int) ≤ (((List.length v18) : Nat) : Int)))) then 
 some (Sum.inl ((List.take 2 v18), ((List.drop 2 v18), v19)))
 else none
 else none) fun (v22, (v23, v24)) =>
 loopO (fun (v25, v26) =>
 bif (decide (v25 < (((List.length v22) : Nat) : Int))) then
 bif (decide (((0 : Int) ≤ v25) ∧ (v25 < (((List.length v22) : Nat) : Int)))) then 
 bindO v22[(Int.toNat v25)]? fun x27 =>
 some (Sum.inl ((Go.IntKind.wrap .i64 (v25 + (1 : Int))), (Go.IntKind.wrap .u64 (((BitVec.toNat ((BitVec.ofInt 64 (Go.IntKind.wrap .u64 (v26 * (256 : Int)))) ||| (BitVec.ofInt 64 (Go.IntKind.wrap .u64 x27)))) : Nat) : Int))))
 else none
 else
 outO (some (Sum.inl (v26, (v23, v24))))) ((0 : Int), (0 : Int))) fun (v32, (v33, v34)) =>
 some (Sum.inl (v32, (v33, v34)))) fun (v35, (v36, v37)) =>
 joinO (bif (decide (v37 ≠ (0 : Int))) then
 some (Sum.inl (([] : List Int), (v36, (6 : Int))))
 else
 bif (decide ((((List.length v36) : Nat) : Int) < (Go.IntKind.wrap .i64 v35))) then
 some (Sum.inl (([] : List Int), (v36, (6 : Int))))
 else
 bif ((decide (((0 : Int) ≤ (Go.IntKind.wrap .i64 v35)) ∧ ((Go.IntKind.wrap .i64 v35) ≤ (((List.length v36) : Nat) : Int)))) && (decide (((0 : Int) ≤ (Go.IntKind.wrap .i64 v35)) ∧ ((Go.IntKind.wrap .i64 v35) ≤ (((Int.toNat (Go.IntKind.wrap .i64 v35)) : Nat) : Int))))) then 
 bif (decide (((0 : Int) ≤ (Go.IntKind.wrap .i64 v35)) ∧ ((Go.IntKind.wrap .i64 v35) ≤ (((List.length v36) : Nat) : Int)))) then 
 some (Sum.inl ((List.take (Int.toNat (Go.IntKind.wrap .i64 v35)) v36), ((List.drop (Int.toNat (Go.IntKind.wrap .i64 v35)) v36), v37)))
 else none
 else none) fun (v41, (v42, v43)) =>
 joinO (joinO (joinO (bif (decide (v43 ≠ (0 : Int))) then
 some (Sum.inl (([] : List Int), (v42, (6 : Int))))
 else
 bif (decide ((((List.length v42) : Nat) : Int) < (2 : Int))) then
 some (Sum.inl (([] : List Int), (v42, (6 : Int))))
 else
 bif ((decide (((0 : Int) ≤ (2 : Int)) ∧ ((2 : Int) ≤ (((List.length v42) : Nat) : Int)))) && Bool.true) then 
 bif (decide (((0 : Int) ≤ (2 : Int)) ∧ ((2 : Int) ≤ (((List.length v42) : Nat) : Int)))) then 
 some (Sum.inl ((List.take 2 v42), ((List.drop 2 v42), v43)))
 else none
 else none) fun (v46, (v47, v48)) =>
 loopO (fun (v49, v50) =>
 bif (decide (v49 < (((List.length v46) : Nat) : Int))) then
 bif (decide (((0 : Int) ≤ v49) ∧ (v49 < (((List.length v46) : Nat) : Int)))) then 
 bindO v46[(Int.toNat v49)]? fun x51 =>
 some (Sum.inl ((Go.IntKind.wrap .i64 (v49 + (1 : Int))), (Go.IntKind.wrap .u64 (((BitVec.toNat ((BitVec.ofInt 64 (Go.IntKind.wrap .u64 (v50 * (256 : Int)))) ||| (BitVec.ofInt 64 (Go.IntKind.wrap .u64 x51)))) : Nat) : Int))))
 else none
 else
 outO (some (Sum.inl (v50, (v47, v48))))) ((0 : Int), (0 : Int))) fun (v56, (v57, v58)) =>
 some (Sum.inl (v56, (v57, v58)))) fun (v59, (v60, v61)) =>
 joinO (bif (decide (v61 ≠ (0 : Int))) then
 some (Sum.inl (([] : List Int), (v60, (6 : Int))))
 else
 bif (decide ((((List.length v60) : Nat) : Int) < (Go.IntKind.wrap .i64 v59))) then
 some (Sum.inl (([] : List Int), (v60, (6 : Int))))
 else
 bif ((decide (((0 : Int) ≤ (Go.IntKind.wrap .i64 v59)) ∧ ((Go.IntKind.wrap .i64 v59) ≤ (((List.length v60) : Nat) : Int)))) && (decide (((0 : Int) ≤ (Go.IntKind.wrap .i64 v59)) ∧ ((Go.IntKind.wrap .i64 v59) ≤ (((Int.toNat (Go.IntKind.wrap .i64 v59)) : Nat) : Int))))) then 
 bif (decide (((0 : Int) ≤ (Go.IntKind.wrap .i64 v59)) ∧ ((Go.IntKind.wrap .i64 v59) ≤ (((List.length v60) : Nat) : Int)))) then 
 some (Sum.inl ((List.take (Int.toNat (Go.IntKind.wrap .i64 v59)) v60), ((List.drop (Int.toNat (Go.IntKind.wrap .i64 v59)) v60), v61)))
 else none
 else none) fun (v65, (v66, v67)) =>
 joinO (joinO (joinO (bif (decide (v67 ≠ (0 : Int))) then
 some (Sum.inl (([] : List Int), (v66, (6 : Int))))
 else
 bif (decide ((((List.length v66) : Nat) : Int) < (4 : Int))) then
 some (Sum.inl (([] : List Int), (v66, (6 : Int))))
 else
 bif ((decide (((0 : Int) ≤ (4 : Int)) ∧ ((4 : Int) ≤ (((List.length v66) : Nat) : Int)))) && Bool.true) then 
 bif (decide (((0 : Int) ≤ (4 : Int)) ∧ ((4 : Int) ≤ (((List.length v66) : Nat) : Int)))) then 
 some (Sum.inl ((List.take 4 v66), ((List.drop 4 v66), v67)))
 else none
 else none) fun (v70, (v71, v72)) =>
 loopO (fun (v73, v74) =>
 bif (decide (v73 < (((List.length v70) : Nat) : Int))) then
 bif (decide (((0 : Int) ≤ v73) ∧ (v73 < (((List.length v70) : Nat) : Int)))) then 
 bindO v70[(Int.toNat v73)]? fun x75 =>
 some (Sum.inl ((Go.IntKind.wrap .i64 (v73 + (1 : Int))), (Go.IntKind.wrap .u64 (((BitVec.toNat ((BitVec.ofInt 64 (Go.IntKind.wrap .u64 (v74 * (256 : Int)))) ||| (BitVec.ofInt 64 (Go.IntKind.wrap .u64 x75)))) : Nat) : Int))))
 else none
 else
 outO (some (Sum.inl (v74, (v71, v72))))) ((0 : Int), (0 : Int))) fun (v80, (v81, v82)) =>
 some (Sum.inl (v80, (v81, v82)))) fun (v83, (v84, v85)) =>
 bindO (registrar_signed v83) fun x86 =>
 joinO (joinO (joinO (bif (decide (v85 ≠ (0 : Int))) then
 some (Sum.inl (([] : List Int), (v84, (6 : Int))))
 else
 bif (decide ((((List.length v84) : Nat) : Int) < (1 : Int))) then
 some (Sum.inl (([] : List Int), (v84, (6 : Int))))
 else
 bif ((decide (((0 : Int) ≤ (1 : Int)) ∧ ((1 : Int) ≤ (((List.length v84) : Nat) : Int)))) && Bool.true) then 
 bif (decide (((0 : Int) ≤ (1 : Int)) ∧ ((1 : Int) ≤ (((List.length v84) : Nat) : Int)))) then 
 some (Sum.inl ((List.take 1 v84), ((List.drop 1 v84), v85)))
 else none
 else none) fun (v89, (v90, v91)) =>
 loopO (fun (v92, v93) =>
 bif (decide (v92 < (((List.length v89) : Nat) : Int))) then
 bif (decide (((0 : Int) ≤ v92) ∧ (v92 < (((List.length v89) : Nat) : Int)))) then 
 bindO v89[(Int.toNat v92)]? fun x94 =>
 some (Sum.inl ((Go.IntKind.wrap .i64 (v92 + (1 : Int))), (Go.IntKind.wrap .u64 (((BitVec.toNat ((BitVec.ofInt 64 (Go.IntKind.wrap .u64 (v93 * (256 : Int)))) ||| (BitVec.ofInt 64 (Go.IntKind.wrap .u64 x94)))) : Nat) : Int))))
 else none
 else
 outO (some (Sum.inl (v93, (v90, v91))))) ((0 : Int), (0 : Int))) fun (v99, (v100, v101)) =>
 some (Sum.inl (v99, (v100, v101)))) fun (v102, (v103, v104)) =>
 joinO (joinO (joinO (bif (decide (v104 ≠ (0 : Int))) then
 some (Sum.inl (([] : List Int), (v103, (6 : Int))))
 else
 bif (decide ((((List.length v103) : Nat) : Int) < (4 : Int))) then
 some (Sum.inl (([] : List Int), (v103, (6 : Int))))
 else
 bif ((decide (((0 : Int) ≤ (4 : Int)) ∧ ((4 : Int) ≤ (((List.length v103) : Nat) : Int)))) && Bool.true) then 
 bif (decide (((0 : Int) ≤ (4 : Int)) ∧ ((4 : Int) ≤ (((List.length v103) : Nat) : Int)))) then 
 some (Sum.inl ((List.take 4 v103), ((List.drop 4 v103), v104)))
 else none
 else none) fun (v107, (v108, v109)) =>
 loopO (fun (v110, v111) =>
 bif (decide (v110 < (((List.length v107) : Nat) : Int))) then
 bif (decide (((0 : Int) ≤ v110) ∧ (v110 < (((List.length v107) : Nat) : Int)))) then 
 bindO v107[(Int.toNat v110)]? fun x112 =>
 some (Sum.inl ((Go.IntKind.wrap .i64 (v110 + (1 : Int))), (Go.IntKind.wrap .u64 (((BitVec.toNat ((BitVec.ofInt 64 (Go.IntKind.wrap .u64 (v111 * (256 : Int)))) ||| (BitVec.ofInt 64 (Go.IntKind.wrap .u64 x112)))) : Nat) : Int))))
 else none
 else
 outO (some (Sum.inl (v111, (v108, v109))))) ((0 : Int), (0 : Int))) fun (v117, (v118, v119)) =>
 some (Sum.inl (v117, (v118, v119)))) fun (v120, (v121, v122)) =>
 bindO (registrar_signed v120) fun x123 =>
 joinO (joinO (joinO (bif (decide (v122 ≠ (0 : Int))) then
 some (Sum.inl (([] : List Int), (v121, (6 : Int))))
 else
 bif (decide ((((List.length v121) : Nat) : Int) < (2 : Int))) then
 some (Sum.inl (([] : List Int), (v121, (6 : Int))))
 else
 bif ((decide (((0 : Int) ≤ (2 : Int)) ∧ ((2 : Int) ≤ (((List.length v121) : Nat) : Int)))) && Bool.true) then 
 bif (decide (((0 : Int) ≤ (2 : Int)) ∧ ((2 : Int) ≤ (((List.length v121) : Nat) : Int)))) then 
 some (Sum.inl ((List.take 2 v121), ((List.drop 2 v121), v122)))
 else none
 else none) fun (v126, (v127, v128)) =>
 loopO (fun (v129, v130) =>
 bif (decide (v129 < (((List.length v126) : Nat) : Int))) then
 bif (decide (((0 : Int) ≤ v129) ∧ (v129 < (((List.length v126) : Nat) : Int)))) then 
 bindO v126[(Int.toNat v129)]? fun x131 =>
 some (Sum.inl ((Go.IntKind.wrap .i64 (v129 + (1 : Int))), (Go.IntKind.wrap .u64 (((BitVec.toNat ((BitVec.ofInt 64 (Go.IntKind.wrap .u64 (v130 * (256 : Int)))) ||| (BitVec.ofInt 64 (Go.IntKind.wrap .u64 x131)))) : Nat) : Int))))
 else none
 else
 outO (some (Sum.inl (v130, (v127, v128))))) ((0 : Int), (0 : Int))) fun (v136, (v137, v138)) =>
 some (Sum.inl (v136, (v137, v138)))) fun (v139, (v140, v141)) =>
 joinO (bif (decide (v141 ≠ (0 : Int))) then
 some (Sum.inl (([] : List Int), (v140, (6 : Int))))
 else
 bif (decide ((((List.length v140) : Nat) : Int) < (Go.IntKind.wrap .i64 v139))) then
 some (Sum.inl (([] : List Int), (v140, (6 : Int))))
 else
 bif ((decide (((0 : Int) ≤ (Go.IntKind.wrap .i64 v139)) ∧ ((Go.IntKind.wrap .i64 v139) ≤ (((List.length v140) : Nat) : Int)))) && (decide (((0 : Int) ≤ (Go.IntKind.wrap .i64 v139)) ∧ ((Go.IntKind.wrap .i64 v139) ≤ (((Int.toNat (Go.IntKind.wrap .i64 v139)) : Nat) : Int))))) then 
 bif (decide (((0 : Int) ≤ (Go.IntKind.wrap .i64 v139)) ∧ ((Go.IntKind.wrap .i64 v139) ≤ (((List.length v140) : Nat) : Int)))) then 
 some (Sum.inl ((List.take (Int.toNat (Go.IntKind.wrap .i64 v139)) v140), ((List.drop (Int.toNat (Go.IntKind.wrap .i64 v139)) v140), v141)))
 else none
 else none) fun (v145, (v146, v147)) =>
 joinO (joinO (joinO (bif (decide (v147 ≠ (0 : Int))) then
 some (Sum.inl (([] : List Int), (v146, (6 : Int))))
 else
 bif (decide ((((List.length v146) : Nat) : Int) < (4 : Int))) then
 some (Sum.inl (([] : List Int), (v146, (6 : Int))))
 else
 bif ((decide (((0 : Int) ≤ (4 : Int)) ∧ ((4 : Int) ≤ (((List.length v146) : Nat) : Int)))) && Bool.true) then 
 bif (decide (((0 : Int) ≤ (4 : Int)) ∧ ((4 : Int) ≤ (((List.length v146) : Nat) : Int)))) then 
 some (Sum.inl ((List.take 4 v146), ((List.drop 4 v146), v147)))
 else none
 else none) fun (v150, (v151, v152)) =>
 loopO (fun (v153, v154) =>
 bif (decide (v153 < (((List.length v150) : Nat) : Int))) then
 bif (decide (((0 : Int) ≤ v153) ∧ (v153 < (((List.length v150) : Nat) : Int)))) then 
 bindO v150[(Int.toNat v153)]? fun x155 =>
 some (Sum.inl ((Go.IntKind.wrap .i64 (v153 + (1 : Int))), (Go.IntKind.wrap .u64 (((BitVec.toNat ((BitVec.ofInt 64 (Go.IntKind.wrap .u64 (v154 * (256 : Int)))) ||| (BitVec.ofInt 64 (Go.IntKind.wrap .u64 x155)))) : Nat) : Int))))
 else none
 else
 outO (some (Sum.inl (v154, (v151, v152))))) ((0 : Int), (0 : Int))) fun (v160, (v161, v162)) =>
 some (Sum.inl (v160, (v161, v162)))) fun (v163, (v164, v165)) =>
 bindO (registrar_signed v163) fun x166 =>
 joinO (joinO (joinO (joinO (bif (decide (v165 ≠ (0 : Int))) then
 some (Sum.inl (([] : List Int), (v164, (6 : Int))))
 else
 bif (decide ((((List.length v164) : Nat) : Int) < (1 : Int))) then
 some (Sum.inl (([] : List Int), (v164, (6 : Int))))
 else
 bif ((decide (((0 : Int) ≤ (1 : Int)) ∧ ((1 : Int) ≤ (((List.length v164) : Nat) : Int)))) && Bool.true) then 
 bif (decide (((0 : Int) ≤ (1 : Int)) ∧ ((1 : Int) ≤ (((List.length v164) : Nat) : Int)))) then 
 some (Sum.inl ((List.take 1 v164), ((List.drop 1 v164), v165)))
 else none
 else none) fun (v169, (v170, v171)) =>
 loopO (fun (v172, v173) =>
 bif (decide (v172 < (((List.length v169) : Nat) : Int))) then
 bif (decide (((0 : Int) ≤ v172) ∧ (v172 < (((List.length v169) : Nat) : Int)))) then 
 bindO v169[(Int.toNat v172)]? fun x174 =>
 some (Sum.inl ((Go.IntKind.wrap .i64 (v172 + (1 : Int))), (Go.IntKind.wrap .u64 (((BitVec.toNat ((BitVec.ofInt 64 (Go.IntKind.wrap .u64 (v173 * (256 : Int)))) ||| (BitVec.ofInt 64 (Go.IntKind.wrap .u64 x174)))) : Nat) : Int))))
 else none
 else
 outO (some (Sum.inl (v173, (v170, v171))))) ((0 : Int), (0 : Int))) fun (v179, (v180, v181)) =>
 some (Sum.inl (v179, (v180, v181)))) fun (v182, (v183, v184)) =>
 loopO (fun (v185, ((v186, (v187, (v188, (v189, (v190, (v191, (v192, v193))))))), (v194, v195))) =>
 bif (decide (v185 < v182)) then
 joinO (joinO (joinO (bif (decide (v195 ≠ (0 : Int))) then
 some (Sum.inl (([] : List Int), (v194, (6 : Int))))
 else
 bif (decide ((((List.length v194) : Nat) : Int) < (2 : Int))) then
 some (Sum.inl (([] : List Int), (v194, (6 : Int))))
 else
 bif ((decide (((0 : Int) ≤ (2 : Int)) ∧ ((2 : Int) ≤ (((List.length v194) : Nat) : Int)))) && Bool.true) then 
 bif (decide (((0 : Int) ≤ (2 : Int)) ∧ ((2 : Int) ≤ (((List.length v194) : Nat) : Int)))) then 
 some (Sum.inl ((List.take 2 v194), ((List.drop 2 v194), v195)))
 else none
 else none) fun (v198, (v199, v200)) =>
 loopO (fun (v201, v202) =>
 bif (decide (v201 < (((List.length v198) : Nat) : Int))) then
 bif (decide (((0 : Int) ≤ v201) ∧ (v201 < (((List.length v198) : Nat) : Int)))) then 
 bindO v198[(Int.toNat v201)]? fun x203 =>
 some (Sum.inl ((Go.IntKind.wrap .i64 (v201 + (1 : Int))), (Go.IntKind.wrap .u64 (((BitVec.toNat ((BitVec.ofInt 64 (Go.IntKind.wrap .u64 (v202 * (256 : Int)))) ||| (BitVec.ofInt 64 (Go.IntKind.wrap .u64 x203)))) : Nat) : Int))))
 else none
 else
 outO (some (Sum.inl (v202, (v199, v200))))) ((0 : Int), (0 : Int))) fun (v208, (v209, v210)) =>
 some (Sum.inl (v208, (v209, v210)))) fun (v211, (v212, v213)) =>
 joinO (bif (decide (v213 ≠ (0 : Int))) then
 some (Sum.inl (([] : List Int), (v212, (6 : Int))))
 else
 bif (decide ((((List.length v212) : Nat) : Int) < (Go.IntKind.wrap .i64 v211))) then
 some (Sum.inl (([] : List Int), (v212, (6 : Int))))
 else
 bif ((decide (((0 : Int) ≤ (Go.IntKind.wrap .i64 v211)) ∧ ((Go.IntKind.wrap .i64 v211) ≤ (((List.length v212) : Nat) : Int)))) && (decide (((0 : Int) ≤ (Go.IntKind.wrap .i64 v211)) ∧ ((Go.IntKind.wrap .i64 v211) ≤ (((Int.toNat (Go.IntKind.wrap .i64 v211)) : Nat) : Int))))) then 
 bif (decide (((0 : Int) ≤ (Go.IntKind.wrap .i64 v211)) ∧ ((Go.IntKind.wrap .i64 v211) ≤ (((List.length v212) : Nat) : Int)))) then 
 some (Sum.inl ((List.take (Int.toNat (Go.IntKind.wrap .i64 v211)) v212), ((List.drop (Int.toNat (Go.IntKind.wrap .i64 v211)) v212), v213)))
 else none
 else none) fun (v217, (v218, v219)) =>
 joinO (joinO (joinO (bif (decide (v219 ≠ (0 : Int))) then
 some (Sum.inl (([] : List Int), (v218, (6 : Int))))
 else
 bif (decide ((((List.length v218) : Nat) : Int) < (2 : Int))) then
 some (Sum.inl (([] : List Int), (v218, (6 : Int))))
 else
 bif ((decide (((0 : Int) ≤ (2 : Int)) ∧ ((2 : Int) ≤ (((List.length v218) : Nat) : Int)))) && Bool.true) then 
 bif (decide (((0 : Int) ≤ (2 : Int)) ∧ ((2 : Int) ≤ (((List.length v218) : Nat) : Int)))) then 
 some (Sum.inl ((List.take 2 v218), ((List.drop 2 v218), v219)))
 else none
 else none) fun (v222, (v223, v224)) =>
 loopO (fun (v225, v226) =>
 bif (decide (v225 < (((List.length v222) : Nat) : Int))) then
 bif (decide (((0 : Int) ≤ v225) ∧ (v225 < (((List.length v222) : Nat) : Int)))) then 
 bindO v222[(Int.toNat v225)]? fun x227 =>
 some (Sum.inl ((Go.IntKind.wrap .i64 (v225 + (1 : Int))), (Go.IntKind.wrap .u64 (((BitVec.toNat ((BitVec.ofInt 64 (Go.IntKind.wrap .u64 (v226 * (256 : Int)))) ||| (BitVec.ofInt 64 (Go.IntKind.wrap .u64 x227)))) : Nat) : Int))))
 else none
 else
 outO (some (Sum.inl (v226, (v223, v224))))) ((0 : Int), (0 : Int))) fun (v232, (v233, v234)) =>
 some (Sum.inl (v232, (v233, v234)))) fun (v235, (v236, v237)) =>
 joinO (joinO (joinO (bif (decide (v237 ≠ (0 : Int))) then
 some (Sum.inl (([] : List Int), (v236, (6 : Int))))
 else
 bif (decide ((((List.length v236) : Nat) : Int) < (4 : Int))) then
 some (Sum.inl (([] : List Int), (v236, (6 : Int))))
 else
 bif ((decide (((0 : Int) ≤ (4 : Int)) ∧ ((4 : Int) ≤ (((List.length v236) : Nat) : Int)))) && Bool.true) then 
 bif (decide (((0 : Int) ≤ (4 : Int)) ∧ ((4 : Int) ≤ (((List.length v236) : Nat) : Int)))) then 
 some (Sum.inl ((List.take 4 v236), ((List.drop 4 v236), v237)))
 else none
 else none) fun (v241, (v242, v243)) =>
 loopO (fun (v244, v245) =>
 bif (decide (v244 < (((List.length v241) : Nat) : Int))) then
 bif (decide (((0 : Int) ≤ v244) ∧ (v244 < (((List.length v241) : Nat) : Int)))) then 
 bindO v241[(Int.toNat v244)]? fun x246 =>
 some (Sum.inl ((Go.IntKind.wrap .i64 (v244 + (1 : Int))), (Go.IntKind.wrap .u64 (((BitVec.toNat ((BitVec.ofInt 64 (Go.IntKind.wrap .u64 (v245 * (256 : Int)))) ||| (BitVec.ofInt 64 (Go.IntKind.wrap .u64 x246)))) : Nat) : Int))))
 else none
 else
 outO (some (Sum.inl (v245, (v242, v243))))) ((0 : Int), (0 : Int))) fun (v251, (v252, v253)) =>
 some (Sum.inl (v251, (v252, v253)))) fun (v254, (v255, v256)) =>
 bindO (registrar_signed v254) fun x257 =>
 bif (decide ((List.length v190) ≤ (List.length v190))) then 
 bif (decide (((List.length ((List.take (List.length v190) v190) ++ (((bytesU v217), ((Go.IntKind.wrap .i64 v235), x257)) :: ([] : List ((List UInt8) × (Int × Int)))))) * 32) ≤ 140737488355328)) then 
 bindO (some ((List.take (List.length v190) v190) ++ (((bytesU v217), ((Go.IntKind.wrap .i64 v235), x257)) :: ([] : List ((List UInt8) × (Int × Int)))))) fun x258 =>
 bif (decide ((List.length x258) ≤ (List.length x258))) then 
 some (Sum.inl ((Go.IntKind.wrap .u64 (v185 + (1 : Int))), ((v186, (v187, (v188, (v189, ((List.take (List.length x258) x258), (v191, (v192, v193))))))), (v255, v256))))
 else none
 else none
 else none
 else
 outO (bif (decide ((List.length v190) ≤ (List.length v190))) then 
 some (Sum.inl ((v186, (v187, (v188, (v189, ((List.take (List.length v190) v190), (v191, (v192, v193))))))), (v194, v195)))
 else none)) ((0 : Int), (((bytesU v41), ((bytesU v65), (x86, ((decide (v102 = (1 : Int))), (([] : List ((List UInt8) × (Int × Int))), (x123, ((bytesU v145), x166))))))), (v183, v184)))) fun ((v260, (v261, (v262, (v263, (v264, (v265, (v266, v267))))))), (v268, v269)) =>
 joinO (joinO (joinO (joinO (bif (decide (v269 ≠ (0 : Int))) then
 some (Sum.inl (([] : List Int), (v268, (6 : Int))))
 else
 bif (decide ((((List.length v268) : Nat) : Int) < (1 : Int))) then
 some (Sum.inl (([] : List Int), (v268, (6 : Int))))
 else
 bif ((decide (((0 : Int) ≤ (1 : Int)) ∧ ((1 : Int) ≤ (((List.length v268) : Nat) : Int)))) && Bool.true) then 
 bif (decide (((0 : Int) ≤ (1 : Int)) ∧ ((1 : Int) ≤ (((List.length v268) : Nat) : Int)))) then 
 some (Sum.inl ((List.take 1 v268), ((List.drop 1 v268), v269)))
 else none
 else none) fun (v272, (v273, v274)) =>
 loopO (fun (v275, v276) =>
 bif (decide (v275 < (((List.length v272) : Nat) : Int))) then
 bif (decide (((0 : Int) ≤ v275) ∧ (v275 < (((List.length v272) : Nat) : Int)))) then 
 bindO v272[(Int.toNat v275)]? fun x277 =>
 some (Sum.inl ((Go.IntKind.wrap .i64 (v275 + (1 : Int))), (Go.IntKind.wrap .u64 (((BitVec.toNat ((BitVec.ofInt 64 (Go.IntKind.wrap .u64 (v276 * (256 : Int)))) ||| (BitVec.ofInt 64 (Go.IntKind.wrap .u64 x277)))) : Nat) : Int))))
 else none
 else
 outO (some (Sum.inl (v276, (v273, v274))))) ((0 : Int), (0 : Int))) fun (v282, (v283, v284)) =>
 some (Sum.inl (v282, (v283, v284)))) fun (v285, (v286, v287)) =>
 bif (decide ((List.length v264) ≤ (List.length v264))) then 
 loopO (fun (v288, ((v289, (v290, (v291, (v292, (v293, (v294, (v295, (v296, v297)))))))), (v298, v299))) =>
 bif (decide (v288 < v285)) then
 joinO (joinO (joinO (bif (decide (v299 ≠ (0 : Int))) then
 some (Sum.inl (([] : List Int), (v298, (6 : Int))))
 else
 bif (decide ((((List.length v298) : Nat) : Int) < (2 : Int))) then
 some (Sum.inl (([] : List Int), (v298, (6 : Int))))
 else
 bif ((decide (((0 : Int) ≤ (2 : Int)) ∧ ((2 : Int) ≤ (((List.length v298) : Nat) : Int)))) && Bool.true) then 
 bif (decide (((0 : Int) ≤ (2 : Int)) ∧ ((2 : Int) ≤ (((List.length v298) : Nat) : Int)))) then 
 some (Sum.inl ((List.take 2 v298), ((List.drop 2 v298), v299)))
 else none
 else none) fun (v302, (v303, v304)) =>
 loopO (fun (v305, v306) =>
 bif (decide (v305 < (((List.length v302) : Nat) : Int))) then
 bif (decide (((0 : Int) ≤ v305) ∧ (v305 < (((List.length v302) : Nat) : Int)))) then 
 bindO v302[(Int.toNat v305)]? fun x307 =>
 some (Sum.inl ((Go.IntKind.wrap .i64 (v305 + (1 : Int))), (Go.IntKind.wrap .u64 (((BitVec.toNat ((BitVec.ofInt 64 (Go.IntKind.wrap .u64 (v306 * (256 : Int)))) ||| (BitVec.ofInt 64 (Go.IntKind.wrap .u64 x307)))) : Nat) : Int))))
 else none
 else
 outO (some (Sum.inl (v306, (v303, v304))))) ((0 : Int), (0 : Int))) fun (v312, (v313, v314)) =>
 some (Sum.inl (v312, (v313, v314)))) fun (v315, (v316, v317)) =>
 joinO (bif (decide (v317 ≠ (0 : Int))) then
 some (Sum.inl (([] : List Int), (v316, (6 : Int))))
 else
 bif (decide ((((List.length v316) : Nat) : Int) < (Go.IntKind.wrap .i64 v315))) then
 some (Sum.inl (([] : List Int), (v316, (6 : Int))))
 else
 bif ((decide (((0 : Int) ≤ (Go.IntKind.wrap .i64 v315)) ∧ ((Go.IntKind.wrap .i64 v315) ≤ (((List.length v316) : Nat) : Int)))) && (decide (((0 : Int) ≤ (Go.IntKind.wrap .i64 v315)) ∧ ((Go.IntKind.wrap .i64 v315) ≤ (((Int.toNat (Go.IntKind.wrap .i64 v315)) : Nat) : Int))))) then 
 bif (decide (((0 : Int) ≤ (Go.IntKind.wrap .i64 v315)) ∧ ((Go.IntKind.wrap .i64 v315) ≤ (((List.length v316) : Nat) : Int)))) then 
 some (Sum.inl ((List.take (Int.toNat (Go.IntKind.wrap .i64 v315)) v316), ((List.drop (Int.toNat (Go.IntKind.wrap .i64 v315)) v316), v317)))
 else none
 else none) fun (v321, (v322, v323)) =>
 bif (decide ((List.length v297) ≤ (List.length v297))) then 
 bif (decide (((List.length ((List.take (List.length v297) v297) ++ ((bytesU v321) :: ([] : List (List UInt8))))) * 16) ≤ 140737488355328)) then 
 bindO (some ((List.take (List.length v297) v297) ++ ((bytesU v321) :: ([] : List (List UInt8))))) fun x324 =>
 bif ((decide ((List.length v293) ≤ (List.length v293))) && (decide ((List.length x324) ≤ (List.length x324)))) then 
 some (Sum.inl ((Go.IntKind.wrap .u64 (v288 + (1 : Int))), ((v289, (v290, (v291, (v292, ((List.take (List.length v293) v293), (v294, (v295, (v296, (List.take (List.length x324) x324))))))))), (v322, v323))))
 else none
 else none
 else none
 else
 outO (bif ((decide ((List.length v293) ≤ (List.length v293))) && (decide ((List.length v297) ≤ (List.length v297)))) then 
 some (Sum.inl ((v289, (v290, (v291, (v292, ((List.take (List.length v293) v293), (v294, (v295, (v296, (List.take (List.length v297) v297))))))))), (v298, v299)))
 else none)) ((0 : Int), ((v260, (v261, (v262, (v263, ((List.take (List.length v264) v264), (v265, (v266, (v267, ([] : List (List UInt8)))))))))), (v286, v287)))
 else none) fun ((v326, (v327, (v328, (v329, (v330, (v331, (v332, (v333, v334)))))))), (v335, v336)) =>
 bif (decide (v336 ≠ (0 : Int))) then
 some ((0 : Int), ((([] : List UInt8), (([] : List UInt8), ((0 : Int), (Bool.false, (([] : List ((List UInt8) × (Int × Int))), ((0 : Int), (([] : List UInt8), ((0 : Int), ([] : List (List UInt8)))))))))), v336))
 else
 bif (decide ((((List.length v335) : Nat) : Int) > (0 : Int))) then
 some ((0 : Int), ((([] : List UInt8), (([] : List UInt8), ((0 : Int), (Bool.false, (([] : List ((List UInt8) × (Int × Int))), ((0 : Int), (([] : List UInt8), ((0 : Int), ([] : List (List UInt8)))))))))), (5 : Int)))
 else
 bif (decide (v102 > (1 : Int))) then
 some ((0 : Int), ((([] : List UInt8), (([] : List UInt8), ((0 : Int), (Bool.false, (([] : List ((List UInt8) × (Int × Int))), ((0 : Int), (([] : List UInt8), ((0 : Int), ([] : List (List UInt8)))))))))), (5 : Int)))
 else
 bif (decide (v17 > (1099511627776 : Int))) then
 some ((0 : Int), ((([] : List UInt8), (([] : List UInt8), ((0 : Int), (Bool.false, (([] : List ((List UInt8) × (Int × Int))), ((0 : Int), (([] : List UInt8), ((0 : Int), ([] : List (List UInt8)))))))))), (5 : Int)))
 else
 bif ((decide ((List.length v330) ≤ (List.length v330))) && (decide ((List.length v334) ≤ (List.length v334)))) then 
 bindO (registrar_Formed (v326, (v327, (v328, (v329, ((List.take (List.length v330) v330), (v331, (v332, (v333, (List.take (List.length v334) v334)))))))))) fun x337 =>
 bif (!x337) then
 some ((0 : Int), ((([] : List UInt8), (([] : List UInt8), ((0 : Int), (Bool.false, (([] : List ((List UInt8) × (Int × Int))), ((0 : Int), (([] : List UInt8), ((0 : Int), ([] : List (List UInt8)))))))))), (5 : Int)))
 else
 bif ((decide ((List.length v330) ≤ (List.length v330))) && (decide ((List.length v334) ≤ (List.length v334)))) then 
 some ((Go.IntKind.wrap .i64 v17), ((v326, (v327, (v328, (v329, ((List.take (List.length v330) v330), (v331, (v332, (v333, (List.take (List.length v334) v334))))))))), (0 : Int)))
 else none
 else none
noncomputable def cons24 : List (Nat × CE) := [(9, ⟨[], riB, (fun _ => some true)⟩), (34, ⟨[(.tmp 0 false [(.dat (.int .i64))]), (.tmp 1 false [(.dat (.int .i64))]), (.tmp 2 false [(.dat (.int .i64))])], [(.tmp 0 false [(.dat .bool)])], registrar_within⟩), (10, ⟨[(.tmp 0 true [(.dat (.int .i64)), (.dat (.int .i64)), (.dat (.int .i64)), (.dat (.int .i64))])], [(.tmp 0 false [(.dat .bool)])], registrar_Valid⟩), (12, ⟨[(.tmp 0 true [(.dat .str), (.dat .str), (.dat (.int .i64)), (.dat .bool), (.dat (.list (.pair .str (.pair (.int .i64) (.int .i64))))), (.dat (.int .i64)), (.dat .str), (.dat (.int .i64)), (.dat (.list .str))])], [(.tmp 0 false [(.dat .bool)])], registrar_Formed⟩), (33, ⟨[(.tmp 0 false [(.dat (.int .i64))]), (.tmp 1 false [(.dat (.int .i64))]), (.tmp 2 false [(.dat (.int .i64))])], [(.tmp 0 false [(.dat .bool)])], dialtoneref22_within⟩), (11, ⟨[(.tmp 0 true [(.dat (.int .i64)), (.dat (.int .i64)), (.dat (.int .i64)), (.dat (.int .i64))])], [(.tmp 0 false [(.dat .bool)])], dialtoneref22_Valid⟩), (39, ⟨[(.tmp 0 true [(.dat .str), (.dat .str), (.dat (.int .i64)), (.dat .bool), (.dat (.list (.pair .str (.pair (.int .i64) (.int .i64))))), (.dat (.int .i64)), (.dat .str), (.dat (.int .i64)), (.dat (.list .str))])], [(.tmp 0 false [(.dat .bool)])], dialtoneref22_contacts⟩), (13, ⟨[(.tmp 0 true [(.dat .str), (.dat .str), (.dat (.int .i64)), (.dat .bool), (.dat (.list (.pair .str (.pair (.int .i64) (.int .i64))))), (.dat (.int .i64)), (.dat .str), (.dat (.int .i64)), (.dat (.list .str))])], [(.tmp 0 false [(.dat .bool)])], dialtoneref22_Formed⟩), (8, ⟨[(.tmp 0 true [(.dat .str), (.dat .str), (.dat (.int .i64)), (.dat .bool), (.dat (.list (.pair .str (.pair (.int .i64) (.int .i64))))), (.dat (.int .i64)), (.dat .str), (.dat (.int .i64)), (.dat (.list .str))])], [(.tmp 0 false [(.dat .bool)])], dialtonelaw22_few⟩), (3, ⟨[(.tmp 0 true [(.dat (.int .i64)), (.dat (.int .i64)), (.dat (.int .i64)), (.dat (.int .i64))]), (.tmp 1 true [(.dat .str), (.dat .str), (.dat (.int .i64)), (.dat .bool), (.dat (.list (.pair .str (.pair (.int .i64) (.int .i64))))), (.dat (.int .i64)), (.dat .str), (.dat (.int .i64)), (.dat (.list .str))])], [(.tmp 0 false [(.dat .bool)])], dialtonelaw22_RegistrarForms⟩), (22, ⟨[(.tmp 0 false [(.dat (.int .i64))]), (.tmp 1 true [(.dat .str), (.dat .str), (.dat (.int .i64)), (.dat .bool), (.dat (.list (.pair .str (.pair (.int .i64) (.int .i64))))), (.dat (.int .i64)), (.dat .str), (.dat (.int .i64)), (.dat (.list .str))])], [(.tmp 0 false [(.dat (.list (.int .u8)))]), (.tmp 1 false [(.dat (.int .u8))])], registrar_EncodeAct⟩), (60, ⟨[(.tmp 0 false [(.dat (.int .u64))])], [(.tmp 0 false [(.dat (.int .i64))])], registrar_signed⟩)]
theorem cons24_ok : ConL Try.prog cons24 := ⟨con_true (by kernel_rfl) lives_o, con34, con10, con12, con33, con11, con39, con13, con8, con3, con22, con60, trivial⟩
theorem con24 : ConOk Try.prog 24 ⟨[(.tmp 0 false [(.dat (.list (.int .u8)))])], [(.tmp 0 false [(.dat (.int .i64))]), (.tmp 1 true [(.dat .str), (.dat .str), (.dat (.int .i64)), (.dat .bool), (.dat (.list (.pair .str (.pair (.int .i64) (.int .i64))))), (.dat (.int .i64)), (.dat .str), (.dat (.int .i64)), (.dat (.list .str))]), (.tmp 2 false [(.dat (.int .u8))])], registrar_DecodeAct⟩ :=
  tree_ok (plan := planOf plan24) (eg := egNo) KK tabL_ok (conOf_ok cons24_ok) Try.func24 (by kernel_rfl) (by kernel_rfl) 10000 (fun a r h => Eq.trans (show _ = registrar_DecodeAct a from by kernel_rfl) h)
end Go.Proofs.Ytlaccfegaoaakaa
