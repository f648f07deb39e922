import Derived.Test.YtlaccfegaoaakaaFp
import Derived.Test.YtlaccfegaoaakaaXBp
import Derived.Test.YtlaccfegaoaakaaZ2p
set_option linter.unusedVariables false
set_option maxRecDepth 1000000
set_option maxHeartbeats 0
namespace Go.Proofs.Ytlaccfegaoaakaa
open Go.RowKit
def plan23_encR : List (Nat × PL) := [(68853956625, (.carry [.tmp 0 false [(.own 10000002 5 (.int .u8))]])), (18049651605504513, (.carry [.tmp 0 false [(.dat (.int .i64))]])), (4731607904491931959314, (.carry [.tmp 0 false [(.own 10000004 5 (.int .u8))]])), (4731607870473375056385, (.carry [.tmp 0 false [(.dat (.int .i64))], .tmp 5 false [(.own 10000001 5 (.int .u8))]])), (1240362622515133011542409729, (.carry [.tmp 0 false [(.dat (.int .i64))]])), (635065658161854684559732639750, .unroll), (325153619316607028177773455999489, (.carry [.tmp 0 false [(.dat (.int .i64))], .tmp 5 false [(.own 10000003 5 (.int .u8))]])), (43641380035651907990852733362959248787462, .unroll), (2422583247133750281371666, (.carry [.tmp 0 false [(.own 10000006 5 (.int .u8))]])), (635065662736629833759894012417, (.carry [.tmp 0 false [(.dat (.int .i64))]])), (166478653092431091141153655991042561, (.carry [.tmp 0 false [(.dat (.int .i64))], .tmp 5 false [(.own 10000005 5 (.int .u8))]])), (22344386578566275049526571006011320754767878, .unroll), (9241421688590303251, (.carry [.tmp 0 false [(.own 10000008 5 (.int .u8))]])), (2422583247133816455430657, (.carry [.tmp 0 false [(.dat (.int .i64))]])), (635065662736647180892414149121, (.carry [.tmp 0 false [(.dat (.int .i64))], .tmp 5 false [(.own 10000007 5 (.int .u8))]])), (85237070383327046956984839529939863558, .unroll), (9241421688590303745, (.carry [.tmp 6 false [(.own 10000009 5 (.int .u8))], .dead 44])), (2422583247133816584929299, (.carry [.tmp 0 false [(.own 10000011 5 (.int .u8))]])), (635065662736647214839706157569, (.carry [.tmp 0 false [(.dat (.int .i64))]])), (166478653092435647486939930969768449, (.carry [.tmp 0 false [(.dat (.int .i64))], .tmp 5 false [(.own 10000010 5 (.int .u8))]])), (22344386578566886591905987207239157776910342, .unroll), (166478653092435647486973812087717906, (.carry [.tmp 0 false [(.own 10000013 5 (.int .u8))]])), (43641380036263450374825262995922722750977, (.carry [.tmp 0 false [(.dat (.int .i64))]])), (11440325928226245935058193742803166232832115201, (.carry [.tmp 0 false [(.dat (.int .i64))], .tmp 5 false [(.own 10000012 5 (.int .u8))]])), (1535494553666017799372746311942857322977045507578529798, .unroll), (635065662736647214839835656211, (.carry [.tmp 0 false [(.own 10000015 5 (.int .u8))]])), (166478653092435647486973878261776897, (.carry [.tmp 0 false [(.dat (.int .i64))]])), (43641380036263450374825280343055242887681, (.carry [.tmp 0 false [(.dat (.int .i64))], .tmp 5 false [(.own 10000014 5 (.int .u8))]])), (5857446875251837918749797524607935278872569055238, .unroll), (325153619321163373997995856232961, (.carry [.tmp 6 false [(.own 10000027 5 (.int .u8))], .dead 77])), (43641380036263450374825280377002530179078, (.carry [.tmp 7 false [(.dat (.int .i64))], .tmp 6 false [(.own 10000025 5 (.int .u8))], .dead 77])), (85237070383327051513330625736333328897, (.carry [.tmp 6 false [(.own 10000021 5 (.int .u8))], .dead 85])), (206090590349426979839369917189178294398992894888625753888653330, (.carry [.tmp 0 false [(.own 10000017 5 (.int .u8))]])), (11440325928226245935058198299148986455098132486, (.carry [.tmp 8 false [(.dat (.int .i64))], .tmp 6 false [(.own 10000019 5 (.int .u8))], .dead 85])), (54025411716560186203011787571639954806929593437683909627387138540033, (.carry [.tmp 0 false [(.dat (.int .i64))]])), (105518382258906613677757397600859611245874185416751138087352139794, (.carry [.tmp 0 false [(.own 10000020 5 (.int .u8))]])), (14162437529025953452002322041179984312907751342128210805361774045438411265, (.carry [.tmp 0 false [(.dat (.int .i64))], .tmp 5 false [(.own 10000016 5 (.int .u8))]])), (27661010798878815335942035236679741930438442461888810342770839334158849, (.carry [.tmp 0 false [(.dat (.int .i64))]])), (1900850188087797525361508715091499933554119458729399139000707530428112323783952390, .unroll), (7251168014861288167425188885084174268612855060729380298495318906413737312769, (.carry [.tmp 0 false [(.dat (.int .i64))], .tmp 5 false [(.own 10000018 5 (.int .u8))]])), (786173211477001113278846424824441125484439448885443952663, (.carry [.tmp 0 false [(.own 10000023 5 (.int .u8))]])), (973235296300952332985092462126850959089279117844399446512003522254296450108546615302, .unroll), (206090590349426979839369917189178294398992894888625819526889985, (.carry [.tmp 0 false [(.dat (.int .i64))]])), (54025411716560186203011787571639954806929593437683926834057048228353, (.carry [.tmp 0 false [(.dat (.int .i64))], .tmp 5 false [(.own 10000022 5 (.int .u8))]])), (7251168014861288167425188885084151968208768687169646241785370035595830888454, .unroll), (786173211477001113278846424824441125484439448885443953175, (.carry [.tmp 0 false [(.own 10000026 5 (.int .u8))]])), (206090590349426979839369917189178294398992894888625819661107713, (.carry [.tmp 0 false [(.dat (.int .i64))]])), (54025411716560186203011787571639954806929593437683926869241420317185, (.carry [.tmp 0 false [(.dat (.int .i64))], .tmp 5 false [(.own 10000024 5 (.int .u8))]])), (7251168014861288167425188885084151968208768687169646246507736518465476102150, .unroll)]
noncomputable def encR : (Int × ((List UInt8) × ((List UInt8) × (Int × (Bool × ((List ((List UInt8) × (Int × Int))) × (Int × ((List UInt8) × (Int × (List (List UInt8))))))))))) → Option ((List Int) × Int) := fun (a1, (a2, (a3, (a4, (a5, (a6, (a7, (a8, (a9, a10))))))))) =>
 bindO (dialtoneref22_Formed (a2, (a3, (a4, (a5, (a6, (a7, (a8, (a9, a10))))))))) fun x11 =>
 bif (!x11) then
 some (([] : List Int), (2 : Int))
 else
 bindO (dialtoneref22_within (a1, ((0 : Int), (1099511627776 : Int)))) fun x12 =>
 bif (!x12) then
 some (([] : List Int), (2 : Int))
 else
 joinO (joinO (bif (decide (a1 < (0 : Int))) then
 some (Sum.inl (Go.IntKind.wrap .i64 (a1 + (4294967296 : Int))))
 else
 some (Sum.inl a1)) fun v14 =>
 joinO (bindO (some (Go.IntKind.wrap .i64 (Int.tdiv v14 (256 : Int)))) fun x17 =>
 bindO (some ((Go.IntKind.wrap .u8 (Int.tmod x17 (256 : Int))) :: ((Go.IntKind.wrap .u8 (Int.tmod v14 (256 : Int))) :: ([] : List Int)))) fun x20 =>
 bindO (some (Go.IntKind.wrap .i64 (Int.tdiv x17 (256 : Int)))) fun x21 =>
 bindO (some (Int.tmod x21 (256 : Int))) fun x22 =>
 bif ((decide ((List.length x20) ≤ (List.length x20))) && (decide ((1 = 0) ∨ ((List.length (List.take (List.length x20) x20)) ≠ 0)))) then 
 bif (decide (((List.length (((Go.IntKind.wrap .u8 x22) :: ([] : List Int)) ++ (List.take (List.length x20) x20))) * 1) ≤ 140737488355328)) then 
 bindO (some (((Go.IntKind.wrap .u8 x22) :: ([] : List Int)) ++ (List.take (List.length x20) x20))) fun x24 =>
 bindO (some (Go.IntKind.wrap .i64 (Int.tdiv x21 (256 : Int)))) fun x25 =>
 bindO (some (Int.tmod x25 (256 : Int))) fun x26 =>
 bif ((decide ((List.length x24) ≤ (List.length x24))) && (decide ((1 = 0) ∨ ((List.length (List.take (List.length x24) x24)) ≠ 0)))) then 
 bif (decide (((List.length (((Go.IntKind.wrap .u8 x26) :: ([] : List Int)) ++ (List.take (List.length x24) x24))) * 1) ≤ 140737488355328)) then 
 bindO (some (((Go.IntKind.wrap .u8 x26) :: ([] : List Int)) ++ (List.take (List.length x24) x24))) fun x28 =>
 bindO (some (Go.IntKind.wrap .i64 (Int.tdiv x25 (256 : Int)))) fun x29 =>
 bindO (some (Int.tmod x29 (256 : Int))) fun x30 =>
 bif ((decide ((List.length x28) ≤ (List.length x28))) && (decide ((1 = 0) ∨ ((List.length (List.take (List.length x28) x28)) ≠ 0)))) then 
 bif (decide (((List.length (((Go.IntKind.wrap .u8 x30) :: ([] : List Int)) ++ (List.take (List.length x28) x28))) * 1) ≤ 140737488355328)) then 
 bindO (some (((Go.IntKind.wrap .u8 x30) :: ([] : List Int)) ++ (List.take (List.length x28) x28))) fun x32 =>
 bindO (some (Go.IntKind.wrap .i64 (Int.tdiv x29 (256 : Int)))) fun x33 =>
 bindO (some (Int.tmod x33 (256 : Int))) fun x34 =>
 bif ((decide ((List.length x32) ≤ (List.length x32))) && (decide ((1 = 0) ∨ ((List.length (List.take (List.length x32) x32)) ≠ 0)))) then 
 bif (decide (((List.length (((Go.IntKind.wrap .u8 x34) :: ([] : List Int)) ++ (List.take (List.length x32) x32))) * 1) ≤ 140737488355328)) then 
 bindO (some (((Go.IntKind.wrap .u8 x34) :: ([] : List Int)) ++ (List.take (List.length x32) x32))) fun x36 =>
 bindO (some (Go.IntKind.wrap .i64 (Int.tdiv x33 (256 : Int)))) fun x37 =>
 bindO (some (Int.tmod x37 (256 : Int))) fun x38 =>
 bif ((decide ((List.length x36) ≤ (List.length x36))) && (decide ((1 = 0) ∨ ((List.length (List.take (List.length x36) x36)) ≠ 0)))) then 
 bif (decide (((List.length (((Go.IntKind.wrap .u8 x38) :: ([] : List Int)) ++ (List.take (List.length x36) x36))) * 1) ≤ 140737488355328)) then 
 bindO (some (((Go.IntKind.wrap .u8 x38) :: ([] : List Int)) ++ (List.take (List.length x36) x36))) fun x40 =>
 bindO (some (Go.IntKind.wrap .i64 (Int.tdiv x37 (256 : Int)))) fun x41 =>
 bindO (some (Int.tmod x41 (256 : Int))) fun x42 =>
 bif ((decide ((List.length x40) ≤ (List.length x40))) && (decide ((1 = 0) ∨ ((List.length (List.take (List.length x40) x40)) ≠ 0)))) then 
 bif (decide (((List.length (((Go.IntKind.wrap .u8 x42) :: ([] : List Int)) ++ (List.take (List.length x40) x40))) * 1) ≤ 140737488355328)) then 
 bindO (some (((Go.IntKind.wrap .u8 x42) :: ([] : List Int)) ++ (List.take (List.length x40) x40))) fun x44 =>
 bif (decide ((List.length x44) ≤ (List.length x44))) then 
 some (Sum.inl ((Go.IntKind.wrap .i64 (Int.tdiv x41 (256 : Int))), (List.take (List.length x44) x44)))
 else none
 else none
 else none
 else none
 else none
 else none
 else none
 else none
 else none
 else none
 else none
 else none
 else none) fun (v46, v47) =>
 bif (decide ((List.length v47) ≤ (List.length v47))) then 
 some (Sum.inl (List.take (List.length v47) v47))
 else none) fun v48 =>
 joinO (joinO (bif (decide ((((List.length a2) : Nat) : Int) < (0 : Int))) then
 some (Sum.inl (Go.IntKind.wrap .i64 ((((List.length a2) : Nat) : Int) + (4294967296 : Int))))
 else
 some (Sum.inl (((List.length a2) : Nat) : Int))) fun v50 =>
 joinO (bindO (some (Go.IntKind.wrap .i64 (Int.tdiv v50 (256 : Int)))) fun x53 =>
 bindO (some ((Go.IntKind.wrap .u8 (Int.tmod x53 (256 : Int))) :: ((Go.IntKind.wrap .u8 (Int.tmod v50 (256 : Int))) :: ([] : List Int)))) fun x56 =>
 bif (decide ((List.length x56) ≤ (List.length x56))) then 
 some (Sum.inl ((Go.IntKind.wrap .i64 (Int.tdiv x53 (256 : Int))), (List.take (List.length x56) x56)))
 else none) fun (v58, v59) =>
 bif (decide ((List.length v59) ≤ (List.length v59))) then 
 some (Sum.inl (List.take (List.length v59) v59))
 else none) fun v60 =>
 bif (decide ((List.length v60) ≤ (List.length v60))) then 
 bif (decide (((List.length ((List.take (List.length v60) v60) ++ (List.map (fun (x61 : UInt8) => (((UInt8.toNat x61) : Nat) : Int)) a2))) * 1) ≤ 140737488355328)) then 
 bindO (some ((List.take (List.length v60) v60) ++ (List.map (fun (x63 : UInt8) => (((UInt8.toNat x63) : Nat) : Int)) a2))) fun x62 =>
 bif ((decide ((List.length x62) ≤ (List.length x62))) && (decide ((List.length v48) ≤ (List.length v48)))) then 
 bif (decide (((List.length ((List.take (List.length v48) v48) ++ (List.take (List.length x62) x62))) * 1) ≤ 140737488355328)) then 
 bindO (some ((List.take (List.length v48) v48) ++ (List.take (List.length x62) x62))) fun x64 =>
 joinO (joinO (bif (decide ((((List.length a3) : Nat) : Int) < (0 : Int))) then
 some (Sum.inl (Go.IntKind.wrap .i64 ((((List.length a3) : Nat) : Int) + (4294967296 : Int))))
 else
 some (Sum.inl (((List.length a3) : Nat) : Int))) fun v66 =>
 joinO (bindO (some (Go.IntKind.wrap .i64 (Int.tdiv v66 (256 : Int)))) fun x69 =>
 bindO (some ((Go.IntKind.wrap .u8 (Int.tmod x69 (256 : Int))) :: ((Go.IntKind.wrap .u8 (Int.tmod v66 (256 : Int))) :: ([] : List Int)))) fun x72 =>
 bif (decide ((List.length x72) ≤ (List.length x72))) then 
 some (Sum.inl ((Go.IntKind.wrap .i64 (Int.tdiv x69 (256 : Int))), (List.take (List.length x72) x72)))
 else none) fun (v74, v75) =>
 bif (decide ((List.length v75) ≤ (List.length v75))) then 
 some (Sum.inl (List.take (List.length v75) v75))
 else none) fun v76 =>
 bif (decide ((List.length v76) ≤ (List.length v76))) then 
 bif (decide (((List.length ((List.take (List.length v76) v76) ++ (List.map (fun (x77 : UInt8) => (((UInt8.toNat x77) : Nat) : Int)) a3))) * 1) ≤ 140737488355328)) then 
 bindO (some ((List.take (List.length v76) v76) ++ (List.map (fun (x79 : UInt8) => (((UInt8.toNat x79) : Nat) : Int)) a3))) fun x78 =>
 bif ((decide ((List.length x78) ≤ (List.length x78))) && (decide ((List.length x64) ≤ (List.length x64)))) then 
 bif (decide (((List.length ((List.take (List.length x64) x64) ++ (List.take (List.length x78) x78))) * 1) ≤ 140737488355328)) then 
 bindO (some ((List.take (List.length x64) x64) ++ (List.take (List.length x78) x78))) fun x80 =>
 joinO (joinO (bif (decide (a4 < (0 : Int))) then
 some (Sum.inl (Go.IntKind.wrap .i64 (a4 + (4294967296 : Int))))
 else
 some (Sum.inl a4)) fun v82 =>
 joinO (bindO (some (Go.IntKind.wrap .i64 (Int.tdiv v82 (256 : Int)))) fun x85 =>
 bindO (some ((Go.IntKind.wrap .u8 (Int.tmod x85 (256 : Int))) :: ((Go.IntKind.wrap .u8 (Int.tmod v82 (256 : Int))) :: ([] : List Int)))) fun x88 =>
 bindO (some (Go.IntKind.wrap .i64 (Int.tdiv x85 (256 : Int)))) fun x89 =>
 bindO (some (Int.tmod x89 (256 : Int))) fun x90 =>
 bif ((decide ((List.length x88) ≤ (List.length x88))) && (decide ((1 = 0) ∨ ((List.length (List.take (List.length x88) x88)) ≠ 0)))) then 
 bif (decide (((List.length (((Go.IntKind.wrap .u8 x90) :: ([] : List Int)) ++ (List.take (List.length x88) x88))) * 1) ≤ 140737488355328)) then 
 bindO (some (((Go.IntKind.wrap .u8 x90) :: ([] : List Int)) ++ (List.take (List.length x88) x88))) fun x92 =>
 bindO (some (Go.IntKind.wrap .i64 (Int.tdiv x89 (256 : Int)))) fun x93 =>
 bindO (some (Int.tmod x93 (256 : Int))) fun x94 =>
 bif ((decide ((List.length x92) ≤ (List.length x92))) && (decide ((1 = 0) ∨ ((List.length (List.take (List.length x92) x92)) ≠ 0)))) then 
 bif (decide (((List.length (((Go.IntKind.wrap .u8 x94) :: ([] : List Int)) ++ (List.take (List.length x92) x92))) * 1) ≤ 140737488355328)) then 
 bindO (some (((Go.IntKind.wrap .u8 x94) :: ([] : List Int)) ++ (List.take (List.length x92) x92))) fun x96 =>
 bif (decide ((List.length x96) ≤ (List.length x96))) then 
 some (Sum.inl ((Go.IntKind.wrap .i64 (Int.tdiv x93 (256 : Int))), (List.take (List.length x96) x96)))
 else none
 else none
 else none
 else none
 else none) fun (v98, v99) =>
 bif (decide ((List.length v99) ≤ (List.length v99))) then 
 some (Sum.inl (List.take (List.length v99) v99))
 else none) fun v100 =>
 bif ((decide ((List.length v100) ≤ (List.length v100))) && (decide ((List.length x80) ≤ (List.length x80)))) then 
 bif (decide (((List.length ((List.take (List.length x80) x80) ++ (List.take (List.length v100) v100))) * 1) ≤ 140737488355328)) then 
 bindO (some ((List.take (List.length x80) x80) ++ (List.take (List.length v100) v100))) fun x101 =>
 joinO (bif a5 then
 bif (decide ((List.length x101) ≤ (List.length x101))) then 
 bif (decide (((List.length ((List.take (List.length x101) x101) ++ ((1 : Int) :: ([] : List Int)))) * 1) ≤ 140737488355328)) then 
 bindO (some ((List.take (List.length x101) x101) ++ ((1 : Int) :: ([] : List Int)))) fun x102 =>
 bif (decide ((List.length x102) ≤ (List.length x102))) then 
 some (Sum.inl (List.take (List.length x102) x102))
 else none
 else none
 else none
 else
 bif (decide ((List.length x101) ≤ (List.length x101))) then 
 bif (decide (((List.length ((List.take (List.length x101) x101) ++ ((0 : Int) :: ([] : List Int)))) * 1) ≤ 140737488355328)) then 
 bindO (some ((List.take (List.length x101) x101) ++ ((0 : Int) :: ([] : List Int)))) fun x103 =>
 bif (decide ((List.length x103) ≤ (List.length x103))) then 
 some (Sum.inl (List.take (List.length x103) x103))
 else none
 else none
 else none) fun v104 =>
 joinO (joinO (bif (decide (a7 < (0 : Int))) then
 some (Sum.inl (Go.IntKind.wrap .i64 (a7 + (4294967296 : Int))))
 else
 some (Sum.inl a7)) fun v106 =>
 joinO (bindO (some (Go.IntKind.wrap .i64 (Int.tdiv v106 (256 : Int)))) fun x109 =>
 bindO (some ((Go.IntKind.wrap .u8 (Int.tmod x109 (256 : Int))) :: ((Go.IntKind.wrap .u8 (Int.tmod v106 (256 : Int))) :: ([] : List Int)))) fun x112 =>
 bindO (some (Go.IntKind.wrap .i64 (Int.tdiv x109 (256 : Int)))) fun x113 =>
 bindO (some (Int.tmod x113 (256 : Int))) fun x114 =>
 bif ((decide ((List.length x112) ≤ (List.length x112))) && (decide ((1 = 0) ∨ ((List.length (List.take (List.length x112) x112)) ≠ 0)))) then 
 bif (decide (((List.length (((Go.IntKind.wrap .u8 x114) :: ([] : List Int)) ++ (List.take (List.length x112) x112))) * 1) ≤ 140737488355328)) then 
 bindO (some (((Go.IntKind.wrap .u8 x114) :: ([] : List Int)) ++ (List.take (List.length x112) x112))) fun x116 =>
 bindO (some (Go.IntKind.wrap .i64 (Int.tdiv x113 (256 : Int)))) fun x117 =>
 bindO (some (Int.tmod x117 (256 : Int))) fun x118 =>
 bif ((decide ((List.length x116) ≤ (List.length x116))) && (decide ((1 = 0) ∨ ((List.length (List.take (List.length x116) x116)) ≠ 0)))) then 
 bif (decide (((List.length (((Go.IntKind.wrap .u8 x118) :: ([] : List Int)) ++ (List.take (List.length x116) x116))) * 1) ≤ 140737488355328)) then 
 bindO (some (((Go.IntKind.wrap .u8 x118) :: ([] : List Int)) ++ (List.take (List.length x116) x116))) fun x120 =>
 bif (decide ((List.length x120) ≤ (List.length x120))) then 
 some (Sum.inl ((Go.IntKind.wrap .i64 (Int.tdiv x117 (256 : Int))), (List.take (List.length x120) x120)))
 else none
 else none
 else none
 else none
 else none) fun (v122, v123) =>
 bif (decide ((List.length v123) ≤ (List.length v123))) then 
 some (Sum.inl (List.take (List.length v123) v123))
 else none) fun v124 =>
 bif ((decide ((List.length v124) ≤ (List.length v124))) && (decide ((List.length v104) ≤ (List.length v104)))) then 
 bif (decide (((List.length ((List.take (List.length v104) v104) ++ (List.take (List.length v124) v124))) * 1) ≤ 140737488355328)) then 
 bindO (some ((List.take (List.length v104) v104) ++ (List.take (List.length v124) v124))) fun x125 =>
 joinO (joinO (bif (decide ((((List.length a8) : Nat) : Int) < (0 : Int))) then
 some (Sum.inl (Go.IntKind.wrap .i64 ((((List.length a8) : Nat) : Int) + (4294967296 : Int))))
 else
 some (Sum.inl (((List.length a8) : Nat) : Int))) fun v127 =>
 joinO (bindO (some (Go.IntKind.wrap .i64 (Int.tdiv v127 (256 : Int)))) fun x130 =>
 bindO (some ((Go.IntKind.wrap .u8 (Int.tmod x130 (256 : Int))) :: ((Go.IntKind.wrap .u8 (Int.tmod v127 (256 : Int))) :: ([] : List Int)))) fun x133 =>
 bif (decide ((List.length x133) ≤ (List.length x133))) then 
 some (Sum.inl ((Go.IntKind.wrap .i64 (Int.tdiv x130 (256 : Int))), (List.take (List.length x133) x133)))
 else none) fun (v135, v136) =>
 bif (decide ((List.length v136) ≤ (List.length v136))) then 
 some (Sum.inl (List.take (List.length v136) v136))
 else none) fun v137 =>
 bif (decide ((List.length v137) ≤ (List.length v137))) then 
 bif (decide (((List.length ((List.take (List.length v137) v137) ++ (List.map (fun (x138 : UInt8) => (((UInt8.toNat x138) : Nat) : Int)) a8))) * 1) ≤ 140737488355328)) then 
 bindO (some ((List.take (List.length v137) v137) ++ (List.map (fun (x140 : UInt8) => (((UInt8.toNat x140) : Nat) : Int)) a8))) fun x139 =>
 bif ((decide ((List.length x139) ≤ (List.length x139))) && (decide ((List.length x125) ≤ (List.length x125)))) then 
 bif (decide (((List.length ((List.take (List.length x125) x125) ++ (List.take (List.length x139) x139))) * 1) ≤ 140737488355328)) then 
 bindO (some ((List.take (List.length x125) x125) ++ (List.take (List.length x139) x139))) fun x141 =>
 joinO (joinO (bif (decide (a9 < (0 : Int))) then
 some (Sum.inl (Go.IntKind.wrap .i64 (a9 + (4294967296 : Int))))
 else
 some (Sum.inl a9)) fun v143 =>
 joinO (bindO (some (Go.IntKind.wrap .i64 (Int.tdiv v143 (256 : Int)))) fun x146 =>
 bindO (some ((Go.IntKind.wrap .u8 (Int.tmod x146 (256 : Int))) :: ((Go.IntKind.wrap .u8 (Int.tmod v143 (256 : Int))) :: ([] : List Int)))) fun x149 =>
 bindO (some (Go.IntKind.wrap .i64 (Int.tdiv x146 (256 : Int)))) fun x150 =>
 bindO (some (Int.tmod x150 (256 : Int))) fun x151 =>
 bif ((decide ((List.length x149) ≤ (List.length x149))) && (decide ((1 = 0) ∨ ((List.length (List.take (List.length x149) x149)) ≠ 0)))) then 
 bif (decide (((List.length (((Go.IntKind.wrap .u8 x151) :: ([] : List Int)) ++ (List.take (List.length x149) x149))) * 1) ≤ 140737488355328)) then 
 bindO (some (((Go.IntKind.wrap .u8 x151) :: ([] : List Int)) ++ (List.take (List.length x149) x149))) fun x153 =>
 bindO (some (Go.IntKind.wrap .i64 (Int.tdiv x150 (256 : Int)))) fun x154 =>
 bindO (some (Int.tmod x154 (256 : Int))) fun x155 =>
 bif ((decide ((List.length x153) ≤ (List.length x153))) && (decide ((1 = 0) ∨ ((List.length (List.take (List.length x153) x153)) ≠ 0)))) then 
 bif (decide (((List.length (((Go.IntKind.wrap .u8 x155) :: ([] : List Int)) ++ (List.take (List.length x153) x153))) * 1) ≤ 140737488355328)) then 
 bindO (some (((Go.IntKind.wrap .u8 x155) :: ([] : List Int)) ++ (List.take (List.length x153) x153))) fun x157 =>
 bif (decide ((List.length x157) ≤ (List.length x157))) then 
 some (Sum.inl ((Go.IntKind.wrap .i64 (Int.tdiv x154 (256 : Int))), (List.take (List.length x157) x157)))
 else none
 else none
 else none
 else none
 else none) fun (v159, v160) =>
 bif (decide ((List.length v160) ≤ (List.length v160))) then 
 some (Sum.inl (List.take (List.length v160) v160))
 else none) fun v161 =>
 bif ((decide ((List.length v161) ≤ (List.length v161))) && (decide ((List.length x141) ≤ (List.length x141)))) then 
 bif (decide (((List.length ((List.take (List.length x141) x141) ++ (List.take (List.length v161) v161))) * 1) ≤ 140737488355328)) then 
 bindO (some ((List.take (List.length x141) x141) ++ (List.take (List.length v161) v161))) fun x162 =>
 bindO (some (Go.IntKind.wrap .u8 (((List.length a6) : Nat) : Int))) fun x163 =>
 bif (decide ((List.length x162) ≤ (List.length x162))) then 
 bif (decide (((List.length ((List.take (List.length x162) x162) ++ (x163 :: ([] : List Int)))) * 1) ≤ 140737488355328)) then 
 bindO (some ((List.take (List.length x162) x162) ++ (x163 :: ([] : List Int)))) fun x164 =>
 joinO (bif (decide ((List.length x164) ≤ (List.length x164))) then 
 loopO (fun (v165, v166) =>
 bif (decide (v165 < (((List.length a6) : Nat) : Int))) then
 bif (decide (((0 : Int) ≤ v165) ∧ (v165 < (((List.length a6) : Nat) : Int)))) then 
 bindO a6[(Int.toNat v165)]? fun x167 =>
 joinO (joinO (bif (decide ((((List.length x167.1) : Nat) : Int) < (0 : Int))) then
 some (Sum.inl (Go.IntKind.wrap .i64 ((((List.length x167.1) : Nat) : Int) + (4294967296 : Int))))
 else
 some (Sum.inl (((List.length x167.1) : Nat) : Int))) fun v169 =>
 joinO (bindO (some (Go.IntKind.wrap .i64 (Int.tdiv v169 (256 : Int)))) fun x172 =>
 bindO (some ((Go.IntKind.wrap .u8 (Int.tmod x172 (256 : Int))) :: ((Go.IntKind.wrap .u8 (Int.tmod v169 (256 : Int))) :: ([] : List Int)))) fun x175 =>
 bif (decide ((List.length x175) ≤ (List.length x175))) then 
 some (Sum.inl ((Go.IntKind.wrap .i64 (Int.tdiv x172 (256 : Int))), (List.take (List.length x175) x175)))
 else none) fun (v177, v178) =>
 bif (decide ((List.length v178) ≤ (List.length v178))) then 
 some (Sum.inl (List.take (List.length v178) v178))
 else none) fun v179 =>
 bif (decide ((List.length v179) ≤ (List.length v179))) then 
 bif (decide (((List.length ((List.take (List.length v179) v179) ++ (List.map (fun (x180 : UInt8) => (((UInt8.toNat x180) : Nat) : Int)) x167.1))) * 1) ≤ 140737488355328)) then 
 bindO (some ((List.take (List.length v179) v179) ++ (List.map (fun (x182 : UInt8) => (((UInt8.toNat x182) : Nat) : Int)) x167.1))) fun x181 =>
 bif ((decide ((List.length x181) ≤ (List.length x181))) && (decide ((List.length v166) ≤ (List.length v166)))) then 
 bif (decide (((List.length ((List.take (List.length v166) v166) ++ (List.take (List.length x181) x181))) * 1) ≤ 140737488355328)) then 
 bindO (some ((List.take (List.length v166) v166) ++ (List.take (List.length x181) x181))) fun x183 =>
 bif (decide (((0 : Int) ≤ v165) ∧ (v165 < (((List.length a6) : Nat) : Int)))) then 
 bindO a6[(Int.toNat v165)]? fun x184 =>
 joinO (joinO (bif (decide (x184.2.1 < (0 : Int))) then
 some (Sum.inl (Go.IntKind.wrap .i64 (x184.2.1 + (4294967296 : Int))))
 else
 some (Sum.inl x184.2.1)) fun v186 =>
 joinO (bindO (some (Go.IntKind.wrap .i64 (Int.tdiv v186 (256 : Int)))) fun x189 =>
 bindO (some ((Go.IntKind.wrap .u8 (Int.tmod x189 (256 : Int))) :: ((Go.IntKind.wrap .u8 (Int.tmod v186 (256 : Int))) :: ([] : List Int)))) fun x192 =>
 bif (decide ((List.length x192) ≤ (List.length x192))) then 
 some (Sum.inl ((Go.IntKind.wrap .i64 (Int.tdiv x189 (256 : Int))), (List.take (List.length x192) x192)))
 else none) fun (v194, v195) =>
 bif (decide ((List.length v195) ≤ (List.length v195))) then 
 some (Sum.inl (List.take (List.length v195) v195))
 else none) fun v196 =>
 bif ((decide ((List.length v196) ≤ (List.length v196))) && (decide ((List.length x183) ≤ (List.length x183)))) then 
 bif (decide (((List.length ((List.take (List.length x183) x183) ++ (List.take (List.length v196) v196))) * 1) ≤ 140737488355328)) then 
 bindO (some ((List.take (List.length x183) x183) ++ (List.take (List.length v196) v196))) fun x197 =>
 bif (decide (((0 : Int) ≤ v165) ∧ (v165 < (((List.length a6) : Nat) : Int)))) then 
 bindO a6[(Int.toNat v165)]? fun x198 =>
 joinO (joinO (bif (decide (x198.2.2 < (0 : Int))) then
 some (Sum.inl (Go.IntKind.wrap .i64 (x198.2.2 + (4294967296 : Int))))
 else
 some (Sum.inl x198.2.2)) fun v200 =>
 joinO (bindO (some (Go.IntKind.wrap .i64 (Int.tdiv v200 (256 : Int)))) fun x203 =>
 bindO (some ((Go.IntKind.wrap .u8 (Int.tmod x203 (256 : Int))) :: ((Go.IntKind.wrap .u8 (Int.tmod v200 (256 : Int))) :: ([] : List Int)))) fun x206 =>
 bindO (some (Go.IntKind.wrap .i64 (Int.tdiv x203 (256 : Int)))) fun x207 =>
 bindO (some (Int.tmod x207 (256 : Int))) fun x208 =>
 bif ((decide ((List.length x206) ≤ (List.length x206))) && (decide ((1 = 0) ∨ ((List.length (List.take (List.length x206) x206)) ≠ 0)))) then 
 bif (decide (((List.length (((Go.IntKind.wrap .u8 x208) :: ([] : List Int)) ++ (List.take (List.length x206) x206))) * 1) ≤ 140737488355328)) then 
 bindO (some (((Go.IntKind.wrap .u8 x208) :: ([] : List Int)) ++ (List.take (List.length x206) x206))) fun x210 =>
 bindO (some (Go.IntKind.wrap .i64 (Int.tdiv x207 (256 : Int)))) fun x211 =>
 bindO (some (Int.tmod x211 (256 : Int))) fun x212 =>
 bif ((decide ((List.length x210) ≤ (List.length x210))) && (decide ((1 = 0) ∨ ((List.length (List.take (List.length x210) x210)) ≠ 0)))) then 
 bif (decide (((List.length (((Go.IntKind.wrap .u8 x212) :: ([] : List Int)) ++ (List.take (List.length x210) x210))) * 1) ≤ 140737488355328)) then 
 bindO (some (((Go.IntKind.wrap .u8 x212) :: ([] : List Int)) ++ (List.take (List.length x210) x210))) fun x214 =>
 bif (decide ((List.length x214) ≤ (List.length x214))) then 
 some (Sum.inl ((Go.IntKind.wrap .i64 (Int.tdiv x211 (256 : Int))), (List.take (List.length x214) x214)))
 else none
 else none
 else none
 else none
 else none) fun (v216, v217) =>
 bif (decide ((List.length v217) ≤ (List.length v217))) then 
 some (Sum.inl (List.take (List.length v217) v217))
 else none) fun v218 =>
 bif ((decide ((List.length v218) ≤ (List.length v218))) && (decide ((List.length x197) ≤ (List.length x197)))) then 
 bif (decide (((List.length ((List.take (List.length x197) x197) ++ (List.take (List.length v218) v218))) * 1) ≤ 140737488355328)) then 
 bindO (some ((List.take (List.length x197) x197) ++ (List.take (List.length v218) v218))) fun x219 =>
 bif (decide ((List.length x219) ≤ (List.length x219))) then 
 some (Sum.inl ((Go.IntKind.wrap .i64 (v165 + (1 : Int))), (List.take (List.length x219) x219)))
 else none
 else none
 else none
 else none
 else none
 else none
 else none
 else none
 else none
 else none
 else none
 else none
 else
 outO (bif (decide ((List.length v166) ≤ (List.length v166))) then 
 some (Sum.inl (List.take (List.length v166) v166))
 else none)) ((0 : Int), (List.take (List.length x164) x164))
 else none) fun v221 =>
 bindO (some (Go.IntKind.wrap .u8 (((List.length a10) : Nat) : Int))) fun x222 =>
 bif (decide ((List.length v221) ≤ (List.length v221))) then 
 bif (decide (((List.length ((List.take (List.length v221) v221) ++ (x222 :: ([] : List Int)))) * 1) ≤ 140737488355328)) then 
 bindO (some ((List.take (List.length v221) v221) ++ (x222 :: ([] : List Int)))) fun x223 =>
 joinO (bif (decide ((List.length x223) ≤ (List.length x223))) then 
 loopO (fun (v224, v225) =>
 bif (decide (v224 < (((List.length a10) : Nat) : Int))) then
 bif (decide (((0 : Int) ≤ v224) ∧ (v224 < (((List.length a10) : Nat) : Int)))) then 
 bindO a10[(Int.toNat v224)]? fun x226 =>
 joinO (joinO (bif (decide ((((List.length x226) : Nat) : Int) < (0 : Int))) then
 some (Sum.inl (Go.IntKind.wrap .i64 ((((List.length x226) : Nat) : Int) + (4294967296 : Int))))
 else
 some (Sum.inl (((List.length x226) : Nat) : Int))) fun v228 =>
 joinO (bindO (some (Go.IntKind.wrap .i64 (Int.tdiv v228 (256 : Int)))) fun x231 =>
 bindO (some ((Go.IntKind.wrap .u8 (Int.tmod x231 (256 : Int))) :: ((Go.IntKind.wrap .u8 (Int.tmod v228 (256 : Int))) :: ([] : List Int)))) fun x234 =>
 bif (decide ((List.length x234) ≤ (List.length x234))) then 
 some (Sum.inl ((Go.IntKind.wrap .i64 (Int.tdiv x231 (256 : Int))), (List.take (List.length x234) x234)))
 else none) fun (v236, v237) =>
 bif (decide ((List.length v237) ≤ (List.length v237))) then 
 some (Sum.inl (List.take (List.length v237) v237))
 else none) fun v238 =>
 bif (decide ((List.length v238) ≤ (List.length v238))) then 
 bif (decide (((List.length ((List.take (List.length v238) v238) ++ (List.map (fun (x239 : UInt8) => (((UInt8.toNat x239) : Nat) : Int)) x226))) * 1) ≤ 140737488355328)) then 
 bindO (some ((List.take (List.length v238) v238) ++ (List.map (fun (x241 : UInt8) => (((UInt8.toNat x241) : Nat) : Int)) x226))) fun x240 =>
 bif ((decide ((List.length x240) ≤ (List.length x240))) && (decide ((List.length v225) ≤ (List.length v225)))) then 
 bif (decide (((List.length ((List.take (List.length v225) v225) ++ (List.take (List.length x240) x240))) * 1) ≤ 140737488355328)) then 
 bindO (some ((List.take (List.length v225) v225) ++ (List.take (List.length x240) x240))) fun x242 =>
 bif (decide ((List.length x242) ≤ (List.length x242))) then 
 some (Sum.inl ((Go.IntKind.wrap .i64 (v224 + (1 : Int))), (List.take (List.length x242) x242)))
 else none
 else none
 else none
 else none
 else none
 else none
 else
 outO (bif (decide ((List.length v225) ≤ (List.length v225))) then 
 some (Sum.inl (List.take (List.length v225) v225))
 else none)) ((0 : Int), (List.take (List.length x223) x223))
 else none) fun v244 =>
 bif (decide ((((List.length v244) : Nat) : Int) > (4096 : Int))) then
 some (([] : List Int), (4 : Int))
 else
 bif (decide ((List.length v244) ≤ (List.length v244))) then 
 some ((List.take (List.length v244) v244), (0 : Int))
 else none
 else none
 else none
 else none
 else none
 else none
 else none
 else none
 else none
 else none
 else none
 else none
 else none
 else none
 else none
 else none
 else none
 else none
 else none
 else none
 else none
 else none
 else none
noncomputable def cons23_encR : List (Nat × CE) := [(9, ⟨[], riB, (fun _ => some true)⟩), (34, ⟨[(.tmp 0 false [(.dat (.int .i64))]), (.tmp 1 false [(.dat (.int .i64))]), (.tmp 2 false [(.dat (.int .i64))])], [(.tmp 0 false [(.dat .bool)])], registrar_within⟩), (10, ⟨[(.tmp 0 true [(.dat (.int .i64)), (.dat (.int .i64)), (.dat (.int .i64)), (.dat (.int .i64))])], [(.tmp 0 false [(.dat .bool)])], registrar_Valid⟩), (12, ⟨[(.tmp 0 true [(.dat .str), (.dat .str), (.dat (.int .i64)), (.dat .bool), (.dat (.list (.pair .str (.pair (.int .i64) (.int .i64))))), (.dat (.int .i64)), (.dat .str), (.dat (.int .i64)), (.dat (.list .str))])], [(.tmp 0 false [(.dat .bool)])], registrar_Formed⟩), (33, ⟨[(.tmp 0 false [(.dat (.int .i64))]), (.tmp 1 false [(.dat (.int .i64))]), (.tmp 2 false [(.dat (.int .i64))])], [(.tmp 0 false [(.dat .bool)])], dialtoneref22_within⟩), (11, ⟨[(.tmp 0 true [(.dat (.int .i64)), (.dat (.int .i64)), (.dat (.int .i64)), (.dat (.int .i64))])], [(.tmp 0 false [(.dat .bool)])], dialtoneref22_Valid⟩), (39, ⟨[(.tmp 0 true [(.dat .str), (.dat .str), (.dat (.int .i64)), (.dat .bool), (.dat (.list (.pair .str (.pair (.int .i64) (.int .i64))))), (.dat (.int .i64)), (.dat .str), (.dat (.int .i64)), (.dat (.list .str))])], [(.tmp 0 false [(.dat .bool)])], dialtoneref22_contacts⟩), (13, ⟨[(.tmp 0 true [(.dat .str), (.dat .str), (.dat (.int .i64)), (.dat .bool), (.dat (.list (.pair .str (.pair (.int .i64) (.int .i64))))), (.dat (.int .i64)), (.dat .str), (.dat (.int .i64)), (.dat (.list .str))])], [(.tmp 0 false [(.dat .bool)])], dialtoneref22_Formed⟩), (8, ⟨[(.tmp 0 true [(.dat .str), (.dat .str), (.dat (.int .i64)), (.dat .bool), (.dat (.list (.pair .str (.pair (.int .i64) (.int .i64))))), (.dat (.int .i64)), (.dat .str), (.dat (.int .i64)), (.dat (.list .str))])], [(.tmp 0 false [(.dat .bool)])], dialtonelaw22_few⟩), (3, ⟨[(.tmp 0 true [(.dat (.int .i64)), (.dat (.int .i64)), (.dat (.int .i64)), (.dat (.int .i64))]), (.tmp 1 true [(.dat .str), (.dat .str), (.dat (.int .i64)), (.dat .bool), (.dat (.list (.pair .str (.pair (.int .i64) (.int .i64))))), (.dat (.int .i64)), (.dat .str), (.dat (.int .i64)), (.dat (.list .str))])], [(.tmp 0 false [(.dat .bool)])], dialtonelaw22_RegistrarForms⟩), (22, ⟨[(.tmp 0 false [(.dat (.int .i64))]), (.tmp 1 true [(.dat .str), (.dat .str), (.dat (.int .i64)), (.dat .bool), (.dat (.list (.pair .str (.pair (.int .i64) (.int .i64))))), (.dat (.int .i64)), (.dat .str), (.dat (.int .i64)), (.dat (.list .str))])], [(.tmp 0 false [(.dat (.list (.int .u8)))]), (.tmp 1 false [(.dat (.int .u8))])], registrar_EncodeAct⟩), (60, ⟨[(.tmp 0 false [(.dat (.int .u64))])], [(.tmp 0 false [(.dat (.int .i64))])], registrar_signed⟩), (24, ⟨[(.tmp 0 false [(.dat (.list (.int .u8)))])], [(.tmp 0 false [(.dat (.int .i64))]), (.tmp 1 true [(.dat .str), (.dat .str), (.dat (.int .i64)), (.dat .bool), (.dat (.list (.pair .str (.pair (.int .i64) (.int .i64))))), (.dat (.int .i64)), (.dat .str), (.dat (.int .i64)), (.dat (.list .str))]), (.tmp 2 false [(.dat (.int .u8))])], registrar_DecodeAct⟩), (25, ⟨[(.tmp 0 false [(.dat (.list (.int .u8)))])], [(.tmp 0 false [(.dat (.int .i64))]), (.tmp 1 true [(.dat .str), (.dat .str), (.dat (.int .i64)), (.dat .bool), (.dat (.list (.pair .str (.pair (.int .i64) (.int .i64))))), (.dat (.int .i64)), (.dat .str), (.dat (.int .i64)), (.dat (.list .str))]), (.tmp 2 false [(.dat (.int .u8))])], dialtoneref22_DecodeAct⟩), (50, ⟨[(.tmp 0 false [(.dat (.list .str))]), (.tmp 1 false [(.dat (.list .str))])], [(.tmp 0 false [(.dat .bool)])], dialtoneref22_strings⟩), (26, ⟨[(.tmp 0 true [(.dat .str), (.dat .str), (.dat (.int .i64)), (.dat .bool), (.dat (.list (.pair .str (.pair (.int .i64) (.int .i64))))), (.dat (.int .i64)), (.dat .str), (.dat (.int .i64)), (.dat (.list .str))]), (.tmp 1 true [(.dat .str), (.dat .str), (.dat (.int .i64)), (.dat .bool), (.dat (.list (.pair .str (.pair (.int .i64) (.int .i64))))), (.dat (.int .i64)), (.dat .str), (.dat (.int .i64)), (.dat (.list .str))])], [(.tmp 0 false [(.dat .bool)])], dialtoneref22_SameAct⟩)]
theorem cons23_encR_ok : ConL Try.prog cons23_encR := ⟨con_true (by kernel_rfl) lives_o, con34, con10, con12, con33, con11, con39, con13, con8, con3, con22, con60, con24, con25, con50, con26, trivial⟩
theorem con23_encR : ConOk Try.prog 23 ⟨[(.tmp 0 false [(.dat (.int .i64))]), (.tmp 1 true [(.dat .str), (.dat .str), (.dat (.int .i64)), (.dat .bool), (.dat (.list (.pair .str (.pair (.int .i64) (.int .i64))))), (.dat (.int .i64)), (.dat .str), (.dat (.int .i64)), (.dat (.list .str))])], [(.tmp 0 false [(.dat (.list (.int .u8)))]), (.tmp 1 false [(.dat (.int .u8))])], encR⟩ :=
  tree_ok (plan := planOf plan23_encR) (eg := egNo) KK tabL_ok (conOf_ok cons23_encR_ok) Try.func23 (by kernel_rfl) (by kernel_rfl) 10000 (fun a r h => Eq.trans (show _ = encR a from by kernel_rfl) h)
def plan5_actsLaw : List (Nat × PL) := [(9241421688590303745, (.carry [])), (4731607904558235517441, (.carry [])), (2422583247133816584929793, (.carry []))]
noncomputable def actsLaw : (Int × (((List UInt8) × ((List UInt8) × (Int × (Bool × ((List ((List UInt8) × (Int × Int))) × (Int × ((List UInt8) × (Int × (List (List UInt8)))))))))) × (List Int))) → Option Bool := fun (a1, ((a2, (a3, (a4, (a5, (a6, (a7, (a8, (a9, a10)))))))), a11)) =>
 bindO (dialtonelaw22_few (a2, (a3, (a4, (a5, (a6, (a7, (a8, (a9, a10))))))))) fun x12 =>
 bif (!x12) then
 some Bool.true
 else
 bif (decide ((((List.length a11) : Nat) : Int) > (6000 : Int))) then
 some Bool.true
 else
 bindO (registrar_EncodeAct (a1, (a2, (a3, (a4, (a5, (a6, (a7, (a8, (a9, a10)))))))))) fun (x16, x17) =>
 bindO (encR (a1, (a2, (a3, (a4, (a5, (a6, (a7, (a8, (a9, a10)))))))))) fun (x19, x20) =>
 bindO (registrar_DecodeAct a11) fun (x22, ((x23, (x24, (x25, (x26, (x27, (x28, (x29, (x30, x31)))))))), x32)) =>
 bindO (dialtoneref22_DecodeAct a11) fun (x34, ((x35, (x36, (x37, (x38, (x39, (x40, (x41, (x42, x43)))))))), x44)) =>
 joinO (bif (decide ((bytesU x16) ≠ (bytesU x19))) then
 outO (some Bool.false)
 else
 bif (decide (x17 ≠ x20)) then
 outO (some Bool.false)
 else
 bif (decide (x22 ≠ x34)) then
 outO (some Bool.false)
 else
 bindO (dialtoneref22_SameAct ((x23, (x24, (x25, (x26, (x27, (x28, (x29, (x30, x31)))))))), (x35, (x36, (x37, (x38, (x39, (x40, (x41, (x42, x43)))))))))) fun x45 =>
 bif (!x45) then
 outO (some Bool.false)
 else
 bif (decide (x32 ≠ x44)) then
 outO (some Bool.false)
 else
 some (Sum.inl ())) fun _ =>
 joinO (bif (decide (x17 = (0 : Int))) then
 bindO (registrar_DecodeAct x16) fun (x47, ((x48, (x49, (x50, (x51, (x52, (x53, (x54, (x55, x56)))))))), x57)) =>
 bif (decide (x57 ≠ (0 : Int))) then
 outO (some Bool.false)
 else
 bif (decide (x47 ≠ a1)) then
 outO (some Bool.false)
 else
 bindO (dialtoneref22_SameAct ((x48, (x49, (x50, (x51, (x52, (x53, (x54, (x55, x56)))))))), (a2, (a3, (a4, (a5, (a6, (a7, (a8, (a9, a10)))))))))) fun x58 =>
 bif (!x58) then
 outO (some Bool.false)
 else
 some (Sum.inl ())
 else
 some (Sum.inl ())) fun _ =>
 joinO (bif (decide (x32 = (0 : Int))) then
 bindO (registrar_EncodeAct (x22, (x23, (x24, (x25, (x26, (x27, (x28, (x29, (x30, x31)))))))))) fun (x60, x61) =>
 bif (decide (x61 ≠ (4 : Int))) then
 bif (decide (x61 ≠ (0 : Int))) then
 outO (some Bool.false)
 else
 bif (decide ((bytesU x60) ≠ (bytesU a11))) then
 outO (some Bool.false)
 else
 some (Sum.inl ())
 else
 some (Sum.inl ())
 else
 some (Sum.inl ())) fun _ =>
 some Bool.true
noncomputable def cons5_actsLaw : List (Nat × CE) := [(9, ⟨[], riB, (fun _ => some true)⟩), (34, ⟨[(.tmp 0 false [(.dat (.int .i64))]), (.tmp 1 false [(.dat (.int .i64))]), (.tmp 2 false [(.dat (.int .i64))])], [(.tmp 0 false [(.dat .bool)])], registrar_within⟩), (10, ⟨[(.tmp 0 true [(.dat (.int .i64)), (.dat (.int .i64)), (.dat (.int .i64)), (.dat (.int .i64))])], [(.tmp 0 false [(.dat .bool)])], registrar_Valid⟩), (12, ⟨[(.tmp 0 true [(.dat .str), (.dat .str), (.dat (.int .i64)), (.dat .bool), (.dat (.list (.pair .str (.pair (.int .i64) (.int .i64))))), (.dat (.int .i64)), (.dat .str), (.dat (.int .i64)), (.dat (.list .str))])], [(.tmp 0 false [(.dat .bool)])], registrar_Formed⟩), (33, ⟨[(.tmp 0 false [(.dat (.int .i64))]), (.tmp 1 false [(.dat (.int .i64))]), (.tmp 2 false [(.dat (.int .i64))])], [(.tmp 0 false [(.dat .bool)])], dialtoneref22_within⟩), (11, ⟨[(.tmp 0 true [(.dat (.int .i64)), (.dat (.int .i64)), (.dat (.int .i64)), (.dat (.int .i64))])], [(.tmp 0 false [(.dat .bool)])], dialtoneref22_Valid⟩), (39, ⟨[(.tmp 0 true [(.dat .str), (.dat .str), (.dat (.int .i64)), (.dat .bool), (.dat (.list (.pair .str (.pair (.int .i64) (.int .i64))))), (.dat (.int .i64)), (.dat .str), (.dat (.int .i64)), (.dat (.list .str))])], [(.tmp 0 false [(.dat .bool)])], dialtoneref22_contacts⟩), (13, ⟨[(.tmp 0 true [(.dat .str), (.dat .str), (.dat (.int .i64)), (.dat .bool), (.dat (.list (.pair .str (.pair (.int .i64) (.int .i64))))), (.dat (.int .i64)), (.dat .str), (.dat (.int .i64)), (.dat (.list .str))])], [(.tmp 0 false [(.dat .bool)])], dialtoneref22_Formed⟩), (8, ⟨[(.tmp 0 true [(.dat .str), (.dat .str), (.dat (.int .i64)), (.dat .bool), (.dat (.list (.pair .str (.pair (.int .i64) (.int .i64))))), (.dat (.int .i64)), (.dat .str), (.dat (.int .i64)), (.dat (.list .str))])], [(.tmp 0 false [(.dat .bool)])], dialtonelaw22_few⟩), (3, ⟨[(.tmp 0 true [(.dat (.int .i64)), (.dat (.int .i64)), (.dat (.int .i64)), (.dat (.int .i64))]), (.tmp 1 true [(.dat .str), (.dat .str), (.dat (.int .i64)), (.dat .bool), (.dat (.list (.pair .str (.pair (.int .i64) (.int .i64))))), (.dat (.int .i64)), (.dat .str), (.dat (.int .i64)), (.dat (.list .str))])], [(.tmp 0 false [(.dat .bool)])], dialtonelaw22_RegistrarForms⟩), (22, ⟨[(.tmp 0 false [(.dat (.int .i64))]), (.tmp 1 true [(.dat .str), (.dat .str), (.dat (.int .i64)), (.dat .bool), (.dat (.list (.pair .str (.pair (.int .i64) (.int .i64))))), (.dat (.int .i64)), (.dat .str), (.dat (.int .i64)), (.dat (.list .str))])], [(.tmp 0 false [(.dat (.list (.int .u8)))]), (.tmp 1 false [(.dat (.int .u8))])], registrar_EncodeAct⟩), (60, ⟨[(.tmp 0 false [(.dat (.int .u64))])], [(.tmp 0 false [(.dat (.int .i64))])], registrar_signed⟩), (24, ⟨[(.tmp 0 false [(.dat (.list (.int .u8)))])], [(.tmp 0 false [(.dat (.int .i64))]), (.tmp 1 true [(.dat .str), (.dat .str), (.dat (.int .i64)), (.dat .bool), (.dat (.list (.pair .str (.pair (.int .i64) (.int .i64))))), (.dat (.int .i64)), (.dat .str), (.dat (.int .i64)), (.dat (.list .str))]), (.tmp 2 false [(.dat (.int .u8))])], registrar_DecodeAct⟩), (25, ⟨[(.tmp 0 false [(.dat (.list (.int .u8)))])], [(.tmp 0 false [(.dat (.int .i64))]), (.tmp 1 true [(.dat .str), (.dat .str), (.dat (.int .i64)), (.dat .bool), (.dat (.list (.pair .str (.pair (.int .i64) (.int .i64))))), (.dat (.int .i64)), (.dat .str), (.dat (.int .i64)), (.dat (.list .str))]), (.tmp 2 false [(.dat (.int .u8))])], dialtoneref22_DecodeAct⟩), (50, ⟨[(.tmp 0 false [(.dat (.list .str))]), (.tmp 1 false [(.dat (.list .str))])], [(.tmp 0 false [(.dat .bool)])], dialtoneref22_strings⟩), (26, ⟨[(.tmp 0 true [(.dat .str), (.dat .str), (.dat (.int .i64)), (.dat .bool), (.dat (.list (.pair .str (.pair (.int .i64) (.int .i64))))), (.dat (.int .i64)), (.dat .str), (.dat (.int .i64)), (.dat (.list .str))]), (.tmp 1 true [(.dat .str), (.dat .str), (.dat (.int .i64)), (.dat .bool), (.dat (.list (.pair .str (.pair (.int .i64) (.int .i64))))), (.dat (.int .i64)), (.dat .str), (.dat (.int .i64)), (.dat (.list .str))])], [(.tmp 0 false [(.dat .bool)])], dialtoneref22_SameAct⟩), (23, ⟨[(.tmp 0 false [(.dat (.int .i64))]), (.tmp 1 true [(.dat .str), (.dat .str), (.dat (.int .i64)), (.dat .bool), (.dat (.list (.pair .str (.pair (.int .i64) (.int .i64))))), (.dat (.int .i64)), (.dat .str), (.dat (.int .i64)), (.dat (.list .str))])], [(.tmp 0 false [(.dat (.list (.int .u8)))]), (.tmp 1 false [(.dat (.int .u8))])], encR⟩)]
theorem cons5_actsLaw_ok : ConL Try.prog cons5_actsLaw := ⟨con_true (by kernel_rfl) lives_o, con34, con10, con12, con33, con11, con39, con13, con8, con3, con22, con60, con24, con25, con50, con26, con23_encR, trivial⟩
theorem con5_actsLaw : ConOk Try.prog 5 ⟨[(.tmp 0 false [(.dat (.int .i64))]), (.tmp 1 true [(.dat .str), (.dat .str), (.dat (.int .i64)), (.dat .bool), (.dat (.list (.pair .str (.pair (.int .i64) (.int .i64))))), (.dat (.int .i64)), (.dat .str), (.dat (.int .i64)), (.dat (.list .str))]), (.tmp 2 false [(.dat (.list (.int .u8)))])], [(.tmp 0 false [(.dat .bool)])], actsLaw⟩ :=
  tree_ok (plan := planOf plan5_actsLaw) (eg := egNo) KK tabL_ok (conOf_ok cons5_actsLaw_ok) Try.func5 (by kernel_rfl) (by kernel_rfl) 10000 (fun a r h => Eq.trans (show _ = actsLaw a from by kernel_rfl) h)
end Go.Proofs.Ytlaccfegaoaakaa
