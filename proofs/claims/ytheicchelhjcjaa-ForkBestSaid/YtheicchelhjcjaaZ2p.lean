import Derived.Test.YtheicchelhjcjaaFp
import Derived.Test.YtheicchelhjcjaaXBp
import Derived.Test.YtheicchelhjcjaaA1p
import Derived.Test.YtheicchelhjcjaaLp
import Derived.Test.YtheicchelhjcjaaZ1p
set_option linter.unusedVariables false
set_option maxRecDepth 1000000
set_option maxHeartbeats 0
namespace Go.Proofs.Ytheicchelhjcjaa
open Go.RowKit
def plan20 : List (Nat × PL) := [(1240362622532478907514618900, (.carry [.mix 13 [(.own 10000001 49 (.pair .str (.pair (.int .i64) (.pair (.int .u8) (.int .i64))))), (.dat (.int .i64)), (.dat .bool), (.dat .bool), (.dat .bool), (.own 10000002 53 (.pair (.int .u8) (.pair (.int .i64) (.int .i64))))], .dead 21])), (325153619321154150731512386159636, (.carry [.mix 13 [(.own 10000009 49 (.pair .str (.pair (.int .i64) (.pair (.int .u8) (.int .i64))))), (.dat (.int .i64)), (.dat .bool), (.dat .bool), (.dat .bool), (.own 10000010 53 (.pair (.int .u8) (.pair (.int .i64) (.int .i64))))], .dead 21])), (85237070383324633689361582957560857618, (.carry [.mix 13 [(.own 10000025 49 (.pair .str (.pair (.int .i64) (.pair (.int .u8) (.int .i64))))), (.dat (.int .i64)), (.dat .bool), (.dat .bool), (.dat .bool), (.own 10000026 53 (.pair (.int .u8) (.pair (.int .i64) (.int .i64))))], .dead 21])), (5857446875251671767151805150744237464400769057296, (.carry [.mix 13 [(.own 10000005 49 (.pair .str (.pair (.int .i64) (.pair (.int .u8) (.int .i64))))), (.dat (.int .i64)), (.dat .bool), (.dat .bool), (.dat .bool), (.own 10000006 53 (.pair (.int .u8) (.pair (.int .i64) (.int .i64))))], .dead 21])), (325153619321154150731512256922113, .unroll), (43641380036262212448953130474204989489665, (.carry [.mix 13 [(.own 10000007 49 (.pair .str (.pair (.int .i64) (.pair (.int .u8) (.int .i64))))), (.dat (.int .i64)), (.dat .bool), (.dat .bool), (.dat .bool), (.own 10000008 53 (.pair (.int .u8) (.pair (.int .i64) (.int .i64))))], .dead 21])), (11440325928225921420218369435047338731219714561, (.carry [.mix 13 [(.own 10000017 49 (.pair .str (.pair (.int .i64) (.pair (.int .u8) (.int .i64))))), (.dat (.int .i64)), (.dat .bool), (.dat .bool), (.dat .bool), (.own 10000018 53 (.pair (.int .u8) (.pair (.int .i64) (.int .i64))))], .dead 21])), (786173211476978812788860318431589061564352104322971207686, (.carry [.tmp 9 false [(.dat (.int .i64))], .mix 13 [(.own 10000003 49 (.pair .str (.pair (.int .i64) (.pair (.int .u8) (.int .i64))))), (.dat (.int .i64)), (.dat .bool), (.dat .bool), (.dat .bool), (.own 10000004 53 (.pair (.int .u8) (.pair (.int .i64) (.int .i64))))], .dead 21])), (11440325928225921420218369435029992764778481665, (.carry [.tmp 23 false [(.dat .bool)]])), (22344386578566252773864002802792954618708497, (.carry [.mix 13 [(.own 10000027 49 (.pair .str (.pair (.int .i64) (.pair (.int .u8) (.int .i64))))), (.dat (.int .i64)), (.dat .bool), (.dat .bool), (.dat .bool), (.own 10000028 53 (.pair (.int .u8) (.pair (.int .i64) (.int .i64))))], .dead 10000008, .dead 10000007])), (2999012800128855944781724237181049564356860853618689, (.carry [.tmp 23 false [(.dat .bool)]])), (5857446875251671767151805150744237430384493855249, (.carry [.mix 13 [(.own 10000029 49 (.pair .str (.pair (.int .i64) (.pair (.int .u8) (.int .i64))))), (.dat (.int .i64)), (.dat .bool), (.dat .bool), (.dat .bool), (.own 10000030 53 (.pair (.int .u8) (.pair (.int .i64) (.int .i64))))], .dead 10000018, .dead 10000017])), (786173211476978812788860318430397051261461662700816039954, (.carry [.tmp 0 false [(.dat (.int .i64))]])), (206090590349421133899722999314930481757884234250710329596313618, (.carry [.tmp 0 false [(.dat (.int .i64))]])), (105518382258903620556658175649084418358210439093283464596458569745, (.carry [.mix 13 [(.own 10000019 49 (.pair .str (.pair (.int .i64) (.pair (.int .u8) (.int .i64))))), (.dat (.int .i64)), (.dat .bool), (.dat .bool), (.dat .bool), (.own 10000020 53 (.pair (.int .u8) (.pair (.int .i64) (.int .i64))))], .dead 21, .dead 82])), (105518382258903620556658175649084418358210439093301479132407267857, (.carry [.mix 13 [(.own 10000021 49 (.pair .str (.pair (.int .i64) (.pair (.int .u8) (.int .i64))))), (.dat (.int .i64)), (.dat .bool), (.dat .bool), (.dat .bool), (.own 10000022 53 (.pair (.int .u8) (.pair (.int .i64) (.int .i64))))], .dead 21])), (206090590349421133899722999314618004605884606107042719977701889, (.carry [])), (27661010798878030707204600797395525739488668005670889302140338858885137, (.carry [.mix 13 [(.own 10000023 49 (.pair .str (.pair (.int .i64) (.pair (.int .u8) (.int .i64))))), (.dat (.int .i64)), (.dat .bool), (.dat .bool), (.dat .bool), (.own 10000024 53 (.pair (.int .u8) (.pair (.int .i64) (.int .i64))))], .dead 21, .dead 82])), (54025411716558653725008985932413136209938804703418208641696037077505, (.carry [])), (14162437529025551722088755608245035912240495280982886678105106077303703558, (.carry [.tmp 9 false [(.dat (.int .i64))], .mix 13 [(.own 10000011 49 (.pair .str (.pair (.int .i64) (.pair (.int .u8) (.int .i64))))), (.dat (.int .i64)), (.dat .bool), (.dat .bool), (.dat .bool), (.own 10000012 53 (.pair (.int .u8) (.pair (.int .i64) (.int .i64))))], .dead 21, .dead 82])), (105518382258903620556658175649084418358210439093283464596458570257, (.carry [.row 10000019 49 (.pair .str (.pair (.int .i64) (.pair (.int .u8) (.int .i64))))])), (14162437529025551722088755608245035912240495280985304548191114662454233094, (.carry [.tmp 9 false [(.dat (.int .i64))], .mix 13 [(.own 10000013 49 (.pair .str (.pair (.int .i64) (.pair (.int .u8) (.int .i64))))), (.dat (.int .i64)), (.dat .bool), (.dat .bool), (.dat .bool), (.own 10000014 53 (.pair (.int .u8) (.pair (.int .i64) (.int .i64))))], .dead 21])), (27661010798878030707204600797353585766095367261862198674347358068934662, (.carry [.tmp 8 false [(.dat (.int .i64))]])), (3712598023608874230635234750173415782119688901467437877872781818789675701372934, (.carry [.tmp 9 false [(.dat (.int .i64))], .mix 13 [(.own 10000015 49 (.pair .str (.pair (.int .i64) (.pair (.int .u8) (.int .i64))))), (.dat (.int .i64)), (.dat .bool), (.dat .bool), (.dat .bool), (.own 10000016 53 (.pair (.int .u8) (.pair (.int .i64) (.int .i64))))], .dead 21, .dead 82])), (27661010798878030707204600797395525739488668005670889302140338858885649, (.carry [.row 10000023 49 (.pair .str (.pair (.int .i64) (.pair (.int .u8) (.int .i64))))])), (7251168014861082481709442871432452699452517386328505797718408163146347055110, (.carry [.tmp 8 false [(.dat (.int .i64))]])), (14162437529025551722088755608245035912240495280982886678105106146023180294, (.carry [.tmp 9 false [(.dat (.int .i64))], .row 10000019 49 (.pair .str (.pair (.int .i64) (.pair (.int .u8) (.int .i64))))])), (1535494553665974243728242809434369240745042310091505685, (.carry [.tmp 0 false [(.dat (.int .i64))]])), (3712598023608874230635234750173415782119688901467437877872781818789744420849670, (.carry [.tmp 9 false [(.dat (.int .i64))], .row 10000023 49 (.pair .str (.pair (.int .i64) (.pair (.int .u8) (.int .i64))))])), (402520684276213152147896483036973597183367645020918741467157, (.carry [.tmp 0 false [(.dat (.int .i64))]])), (402520684276213152147896483036363290245868371336627666289153, (.carry [])), (105518382258903620556658175649084418358212918335668956692967063569, (.carry [.row 10000007 49 (.pair .str (.pair (.int .i64) (.pair (.int .u8) (.int .i64))))])), (105518382258903620556658175649244406660036727936363722563166405121, (.carry [])), (27661010798878030707204600797395525739488668008150131687632435367378961, (.carry [.row 10000017 49 (.pair .str (.pair (.int .i64) (.pair (.int .u8) (.int .i64))))])), (54025411716558653725008985932331222199405014187862488551272172750854, (.carry [.tmp 8 false [(.dat (.int .i64))]])), (14162437529025551722088755608245035912240828039263028727460432851063015430, (.carry [.tmp 9 false [(.dat (.int .i64))], .row 10000007 49 (.pair .str (.pair (.int .i64) (.pair (.int .u8) (.int .i64))))])), (14162437529025551722088755608266509178618198020172867424050531381134231558, (.carry [.tmp 8 false [(.dat (.int .i64))]])), (3712598023608874230635234750173415782119688901800196158014831174116449460684806, (.carry [.tmp 9 false [(.dat (.int .i64))], .row 10000017 49 (.pair .str (.pair (.int .i64) (.pair (.int .u8) (.int .i64))))])), (54025411716558653725008985932331222199405014187862505861983374673926, (.carry [.tmp 65 false [(.dat (.int .i64))], .mix 13 [(.own 10000031 49 (.pair .str (.pair (.int .i64) (.pair (.int .u8) (.int .i64))))), (.dat (.int .i64)), (.dat .bool), (.dat .bool), (.dat .bool), (.own 10000032 53 (.pair (.int .u8) (.pair (.int .i64) (.int .i64))))], .dead 10000007, .dead 10000008])), (14162437529025551722088755608266509178618198020172867424067842092336154630, (.carry [.tmp 65 false [(.dat (.int .i64))], .mix 13 [(.own 10000033 49 (.pair .str (.pair (.int .i64) (.pair (.int .u8) (.int .i64))))), (.dat (.int .i64)), (.dat .bool), (.dat .bool), (.dat .bool), (.own 10000034 53 (.pair (.int .u8) (.pair (.int .i64) (.int .i64))))], .dead 10000017, .dead 10000018]))]
noncomputable def fork_Step : (((List ((List UInt8) × (Int × (Int × Int)))) × (Int × (Bool × (Bool × Bool)))) × (Int × (Int × Int))) → Option (((List ((List UInt8) × (Int × (Int × Int)))) × (Int × (Bool × (Bool × Bool)))) × ((List (Int × (Int × Int))) × Int)) := fun ((a1, (a2, (a3, (a4, a5)))), (a6, (a7, a8))) =>
 bindO (fork_check ((a1, (a2, (a3, (a4, a5)))), (a6, (a7, a8)))) fun x9 =>
 bif (decide (x9 ≠ (0 : Int))) then
 some ((([] : List ((List UInt8) × (Int × (Int × Int)))), ((0 : Int), (Bool.false, (Bool.false, Bool.false)))), (([] : List (Int × (Int × Int))), x9))
 else
 bindO (cloneG a1) fun x10 =>
 bif (decide (a6 = (1 : Int))) then
 joinO (bif (decide (((0 : Int) ≤ a7) ∧ (a7 < (((List.length x10) : Nat) : Int)))) then 
 bindO x10[(Int.toNat a7)]? fun x11 =>
 bif (decide (x11.2.2.1 = (1 : Int))) then
 bindO x10[(Int.toNat a7)]? fun x12 =>
 bindO (List.set x10 (Int.toNat a7) (x12.1, (x12.2.1, ((2 : Int), x12.2.2.2))))[(Int.toNat a7)]? fun x13 =>
 bif (decide (x13.2.2.1 = (2 : Int))) then
 bif (decide (a8 > (100 : Int))) then
 bindO (some (((3 : Int), (a7, a8)) :: ([] : List (Int × (Int × Int))))) fun x14 =>
 bif ((decide ((List.length x10) ≤ (List.length (List.set x10 (Int.toNat a7) (x12.1, (x12.2.1, ((2 : Int), x12.2.2.2))))))) && (decide ((List.length x14) ≤ (List.length x14)))) then 
 some (Sum.inl ((List.take (List.length x10) (List.set x10 (Int.toNat a7) (x12.1, (x12.2.1, ((2 : Int), x12.2.2.2))))), (a2, (a3, (a4, (a5, (List.take (List.length x14) x14)))))))
 else none
 else
 bif (decide ((List.length x10) ≤ (List.length (List.set x10 (Int.toNat a7) (x12.1, (x12.2.1, ((2 : Int), x12.2.2.2))))))) then 
 some (Sum.inl ((List.take (List.length x10) (List.set x10 (Int.toNat a7) (x12.1, (x12.2.1, ((2 : Int), x12.2.2.2))))), (a2, (a3, (a4, (a5, ([] : List (Int × (Int × Int)))))))))
 else none
 else
 bif (decide ((List.length x10) ≤ (List.length (List.set x10 (Int.toNat a7) (x12.1, (x12.2.1, ((2 : Int), x12.2.2.2))))))) then 
 some (Sum.inl ((List.take (List.length x10) (List.set x10 (Int.toNat a7) (x12.1, (x12.2.1, ((2 : Int), x12.2.2.2))))), (a2, (a3, (a4, (a5, ([] : List (Int × (Int × Int)))))))))
 else none
 else
 bif (decide (x11.2.2.1 = (3 : Int))) then
 bindO x10[(Int.toNat a7)]? fun x15 =>
 bindO (some (((2 : Int), (a7, (0 : Int))) :: ([] : List (Int × (Int × Int))))) fun x16 =>
 bindO (List.set x10 (Int.toNat a7) (x15.1, (x15.2.1, ((4 : Int), x15.2.2.2))))[(Int.toNat a7)]? fun x17 =>
 bif (decide (x17.2.2.1 = (2 : Int))) then
 bif (decide (a8 > (100 : Int))) then
 bif (decide ((List.length x16) ≤ (List.length x16))) then 
 bif (decide (((List.length ((List.take (List.length x16) x16) ++ (((3 : Int), (a7, a8)) :: ([] : List (Int × (Int × Int)))))) * 24) ≤ 140737488355328)) then 
 bindO (some ((List.take (List.length x16) x16) ++ (((3 : Int), (a7, a8)) :: ([] : List (Int × (Int × Int)))))) fun x18 =>
 bif ((decide ((List.length x10) ≤ (List.length (List.set x10 (Int.toNat a7) (x15.1, (x15.2.1, ((4 : Int), x15.2.2.2))))))) && (decide ((List.length x18) ≤ (List.length x18)))) then 
 some (Sum.inl ((List.take (List.length x10) (List.set x10 (Int.toNat a7) (x15.1, (x15.2.1, ((4 : Int), x15.2.2.2))))), (a2, (a3, (a4, (a5, (List.take (List.length x18) x18)))))))
 else none
 else none
 else none
 else
 bif ((decide ((List.length x10) ≤ (List.length (List.set x10 (Int.toNat a7) (x15.1, (x15.2.1, ((4 : Int), x15.2.2.2))))))) && (decide ((List.length x16) ≤ (List.length x16)))) then 
 some (Sum.inl ((List.take (List.length x10) (List.set x10 (Int.toNat a7) (x15.1, (x15.2.1, ((4 : Int), x15.2.2.2))))), (a2, (a3, (a4, (a5, (List.take (List.length x16) x16)))))))
 else none
 else
 bif ((decide ((List.length x10) ≤ (List.length (List.set x10 (Int.toNat a7) (x15.1, (x15.2.1, ((4 : Int), x15.2.2.2))))))) && (decide ((List.length x16) ≤ (List.length x16)))) then 
 some (Sum.inl ((List.take (List.length x10) (List.set x10 (Int.toNat a7) (x15.1, (x15.2.1, ((4 : Int), x15.2.2.2))))), (a2, (a3, (a4, (a5, (List.take (List.length x16) x16)))))))
 else none
 else
 bindO x10[(Int.toNat a7)]? fun x19 =>
 bif (decide (x19.2.2.1 = (2 : Int))) then
 bif (decide (a8 > (100 : Int))) then
 bindO (some (((3 : Int), (a7, a8)) :: ([] : List (Int × (Int × Int))))) fun x20 =>
 bif ((decide ((List.length x10) ≤ (List.length x10))) && (decide ((List.length x20) ≤ (List.length x20)))) then 
 some (Sum.inl ((List.take (List.length x10) x10), (a2, (a3, (a4, (a5, (List.take (List.length x20) x20)))))))
 else none
 else
 bif (decide ((List.length x10) ≤ (List.length x10))) then 
 some (Sum.inl ((List.take (List.length x10) x10), (a2, (a3, (a4, (a5, ([] : List (Int × (Int × Int)))))))))
 else none
 else
 bif (decide ((List.length x10) ≤ (List.length x10))) then 
 some (Sum.inl ((List.take (List.length x10) x10), (a2, (a3, (a4, (a5, ([] : List (Int × (Int × Int)))))))))
 else none
 else none) fun (v21, (v22, (v23, (v24, (v25, v26))))) =>
 bif ((decide ((List.length v21) ≤ (List.length v21))) && (decide ((List.length v26) ≤ (List.length v26)))) then 
 some (((List.take (List.length v21) v21), (v22, (v23, (v24, v25)))), ((List.take (List.length v26) v26), (0 : Int)))
 else none
 else
 bif (decide (a6 = (2 : Int))) then
 joinO (bif (decide (((0 : Int) ≤ a7) ∧ (a7 < (((List.length x10) : Nat) : Int)))) then 
 bindO x10[(Int.toNat a7)]? fun x27 =>
 bif (decide (((0 : Int) ≤ a7) ∧ (a7 < (((List.length x10) : Nat) : Int)))) then 
 bindO (List.set x10 (Int.toNat a7) (x27.1, (x27.2.1, ((5 : Int), x27.2.2.2))))[(Int.toNat a7)]? fun x28 =>
 joinO (joinO (bif (decide (a8 < (300 : Int))) then
 bif (!a5) then
 some (Sum.inl (!a3))
 else
 some (Sum.inl Bool.false)
 else
 some (Sum.inl Bool.false)) fun v29 =>
 bif v29 then
 bindO (some (((4 : Int), (a7, a8)) :: ([] : List (Int × (Int × Int))))) fun x30 =>
 joinO (bif ((decide ((List.length x10) ≤ (List.length (List.set (List.set x10 (Int.toNat a7) (x27.1, (x27.2.1, ((5 : Int), x27.2.2.2)))) (Int.toNat a7) (x28.1, (x28.2.1, (x28.2.2.1, a8))))))) && (decide ((List.length x30) ≤ (List.length x30)))) then 
 loopO (fun (v31, (v32, (v33, (v34, (v35, (v36, v37)))))) =>
 bif (decide (v31 < (((List.length x10) : Nat) : Int))) then
 bif (decide (((0 : Int) ≤ v31) ∧ (v31 < (((List.length v32) : Nat) : Int)))) then 
 bindO v32[(Int.toNat v31)]? fun x38 =>
 bif (decide (x38.2.2.1 = (2 : Int))) then
 bif (decide (((0 : Int) ≤ v31) ∧ (v31 < (((List.length v32) : Nat) : Int)))) then 
 bindO v32[(Int.toNat v31)]? fun x39 =>
 bif (decide ((List.length v37) ≤ (List.length v37))) then 
 bif (decide (((List.length ((List.take (List.length v37) v37) ++ (((2 : Int), (v31, (0 : Int))) :: ([] : List (Int × (Int × Int)))))) * 24) ≤ 140737488355328)) then 
 bindO (some ((List.take (List.length v37) v37) ++ (((2 : Int), (v31, (0 : Int))) :: ([] : List (Int × (Int × Int)))))) fun x40 =>
 bif ((decide ((List.length v32) ≤ (List.length (List.set v32 (Int.toNat v31) (x39.1, (x39.2.1, ((4 : Int), x39.2.2.2))))))) && (decide ((List.length x40) ≤ (List.length x40)))) then 
 some (Sum.inl ((Go.IntKind.wrap .i64 (v31 + (1 : Int))), ((List.take (List.length v32) (List.set v32 (Int.toNat v31) (x39.1, (x39.2.1, ((4 : Int), x39.2.2.2))))), (v33, (v34, (v35, (v36, (List.take (List.length x40) x40))))))))
 else none
 else none
 else none
 else none
 else
 bif (decide (x38.2.2.1 = (1 : Int))) then
 bif (decide (((0 : Int) ≤ v31) ∧ (v31 < (((List.length v32) : Nat) : Int)))) then 
 bindO v32[(Int.toNat v31)]? fun x42 =>
 bif ((decide ((List.length v32) ≤ (List.length (List.set v32 (Int.toNat v31) (x42.1, (x42.2.1, ((3 : Int), x42.2.2.2))))))) && (decide ((List.length v37) ≤ (List.length v37)))) then 
 some (Sum.inl ((Go.IntKind.wrap .i64 (v31 + (1 : Int))), ((List.take (List.length v32) (List.set v32 (Int.toNat v31) (x42.1, (x42.2.1, ((3 : Int), x42.2.2.2))))), (v33, (v34, (v35, (v36, (List.take (List.length v37) v37))))))))
 else none
 else none
 else
 bif ((decide ((List.length v32) ≤ (List.length v32))) && (decide ((List.length v37) ≤ (List.length v37)))) then 
 some (Sum.inl ((Go.IntKind.wrap .i64 (v31 + (1 : Int))), ((List.take (List.length v32) v32), (v33, (v34, (v35, (v36, (List.take (List.length v37) v37))))))))
 else none
 else none
 else
 outO (bif ((decide ((List.length v32) ≤ (List.length v32))) && (decide ((List.length v37) ≤ (List.length v37)))) then 
 some (Sum.inl ((List.take (List.length v32) v32), (v33, (v34, (v35, (v36, (List.take (List.length v37) v37)))))))
 else none)) ((0 : Int), ((List.take (List.length x10) (List.set (List.set x10 (Int.toNat a7) (x27.1, (x27.2.1, ((5 : Int), x27.2.2.2)))) (Int.toNat a7) (x28.1, (x28.2.1, (x28.2.2.1, a8))))), (a7, (a3, (Bool.true, (Bool.true, (List.take (List.length x30) x30)))))))
 else none) fun (v45, (v46, (v47, (v48, (v49, v50))))) =>
 joinO (loopO (fun (v51, v52) =>
 bif (decide (v51 < (((List.length v45) : Nat) : Int))) then
 bif (decide (((0 : Int) ≤ v51) ∧ (v51 < (((List.length v45) : Nat) : Int)))) then 
 bindO v52[(Int.toNat v51)]? fun x53 =>
 bif (decide (x53.2.2.1 = (0 : Int))) then
 bif (decide (((0 : Int) ≤ v51) ∧ (v51 < (((List.length v45) : Nat) : Int)))) then 
 bindO v52[(Int.toNat v51)]? fun x54 =>
 some (Sum.inl ((Go.IntKind.wrap .i64 (v51 + (1 : Int))), (List.set v52 (Int.toNat v51) (x54.1, (x54.2.1, ((6 : Int), x54.2.2.2))))))
 else none
 else
 some (Sum.inl ((Go.IntKind.wrap .i64 (v51 + (1 : Int))), v52))
 else none
 else
 outO (some (Sum.inl v52))) ((0 : Int), v45)) fun v57 =>
 bif ((decide ((List.length v45) ≤ (List.length v57))) && (decide ((List.length v50) ≤ (List.length v50)))) then 
 some (Sum.inl ((List.take (List.length v45) v57), (v46, (v47, (v48, (v49, (List.take (List.length v50) v50)))))))
 else none
 else
 bif (decide (a8 < (300 : Int))) then
 bindO (some (((5 : Int), (a7, a8)) :: ([] : List (Int × (Int × Int))))) fun x58 =>
 bif ((decide ((List.length x10) ≤ (List.length (List.set (List.set x10 (Int.toNat a7) (x27.1, (x27.2.1, ((5 : Int), x27.2.2.2)))) (Int.toNat a7) (x28.1, (x28.2.1, (x28.2.2.1, a8))))))) && (decide ((List.length x58) ≤ (List.length x58)))) then 
 some (Sum.inl ((List.take (List.length x10) (List.set (List.set x10 (Int.toNat a7) (x27.1, (x27.2.1, ((5 : Int), x27.2.2.2)))) (Int.toNat a7) (x28.1, (x28.2.1, (x28.2.2.1, a8))))), (a2, (a3, (a4, (a5, (List.take (List.length x58) x58)))))))
 else none
 else
 bif (decide (a8 ≥ (600 : Int))) then
 joinO (bif (decide ((List.length x10) ≤ (List.length (List.set (List.set x10 (Int.toNat a7) (x27.1, (x27.2.1, ((5 : Int), x27.2.2.2)))) (Int.toNat a7) (x28.1, (x28.2.1, (x28.2.2.1, a8))))))) then 
 loopO (fun (v59, (v60, (v61, (v62, (v63, (v64, v65)))))) =>
 bif (decide (v59 < (((List.length x10) : Nat) : Int))) then
 bif (decide (((0 : Int) ≤ v59) ∧ (v59 < (((List.length v60) : Nat) : Int)))) then 
 bindO v60[(Int.toNat v59)]? fun x66 =>
 bif (decide (x66.2.2.1 = (2 : Int))) then
 bif (decide (((0 : Int) ≤ v59) ∧ (v59 < (((List.length v60) : Nat) : Int)))) then 
 bindO v60[(Int.toNat v59)]? fun x67 =>
 bif (decide ((List.length v65) ≤ (List.length v65))) then 
 bif (decide (((List.length ((List.take (List.length v65) v65) ++ (((2 : Int), (v59, (0 : Int))) :: ([] : List (Int × (Int × Int)))))) * 24) ≤ 140737488355328)) then 
 bindO (some ((List.take (List.length v65) v65) ++ (((2 : Int), (v59, (0 : Int))) :: ([] : List (Int × (Int × Int)))))) fun x68 =>
 bif ((decide ((List.length v60) ≤ (List.length (List.set v60 (Int.toNat v59) (x67.1, (x67.2.1, ((4 : Int), x67.2.2.2))))))) && (decide ((List.length x68) ≤ (List.length x68)))) then 
 some (Sum.inl ((Go.IntKind.wrap .i64 (v59 + (1 : Int))), ((List.take (List.length v60) (List.set v60 (Int.toNat v59) (x67.1, (x67.2.1, ((4 : Int), x67.2.2.2))))), (v61, (v62, (v63, (v64, (List.take (List.length x68) x68))))))))
 else none
 else none
 else none
 else none
 else
 bif (decide (x66.2.2.1 = (1 : Int))) then
 bif (decide (((0 : Int) ≤ v59) ∧ (v59 < (((List.length v60) : Nat) : Int)))) then 
 bindO v60[(Int.toNat v59)]? fun x70 =>
 bif ((decide ((List.length v60) ≤ (List.length (List.set v60 (Int.toNat v59) (x70.1, (x70.2.1, ((3 : Int), x70.2.2.2))))))) && (decide ((List.length v65) ≤ (List.length v65)))) then 
 some (Sum.inl ((Go.IntKind.wrap .i64 (v59 + (1 : Int))), ((List.take (List.length v60) (List.set v60 (Int.toNat v59) (x70.1, (x70.2.1, ((3 : Int), x70.2.2.2))))), (v61, (v62, (v63, (v64, (List.take (List.length v65) v65))))))))
 else none
 else none
 else
 bif ((decide ((List.length v60) ≤ (List.length v60))) && (decide ((List.length v65) ≤ (List.length v65)))) then 
 some (Sum.inl ((Go.IntKind.wrap .i64 (v59 + (1 : Int))), ((List.take (List.length v60) v60), (v61, (v62, (v63, (v64, (List.take (List.length v65) v65))))))))
 else none
 else none
 else
 outO (bif ((decide ((List.length v60) ≤ (List.length v60))) && (decide ((List.length v65) ≤ (List.length v65)))) then 
 some (Sum.inl ((List.take (List.length v60) v60), (v61, (v62, (v63, (v64, (List.take (List.length v65) v65)))))))
 else none)) ((0 : Int), ((List.take (List.length x10) (List.set (List.set x10 (Int.toNat a7) (x27.1, (x27.2.1, ((5 : Int), x27.2.2.2)))) (Int.toNat a7) (x28.1, (x28.2.1, (x28.2.2.1, a8))))), (a2, (a3, (Bool.true, (a5, ([] : List (Int × (Int × Int)))))))))
 else none) fun (v73, (v74, (v75, (v76, (v77, v78))))) =>
 bif ((decide ((List.length v73) ≤ (List.length v73))) && (decide ((List.length v78) ≤ (List.length v78)))) then 
 some (Sum.inl ((List.take (List.length v73) v73), (v74, (v75, (v76, (v77, (List.take (List.length v78) v78)))))))
 else none
 else
 bif (decide ((List.length x10) ≤ (List.length (List.set (List.set x10 (Int.toNat a7) (x27.1, (x27.2.1, ((5 : Int), x27.2.2.2)))) (Int.toNat a7) (x28.1, (x28.2.1, (x28.2.2.1, a8))))))) then 
 some (Sum.inl ((List.take (List.length x10) (List.set (List.set x10 (Int.toNat a7) (x27.1, (x27.2.1, ((5 : Int), x27.2.2.2)))) (Int.toNat a7) (x28.1, (x28.2.1, (x28.2.2.1, a8))))), (a2, (a3, (a4, (a5, ([] : List (Int × (Int × Int)))))))))
 else none) fun (v79, (v80, (v81, (v82, (v83, v84))))) =>
 joinO (joinO (joinO (loopO (fun v85 =>
 bif (decide (v85 < (((List.length v79) : Nat) : Int))) then
 bif (decide (((0 : Int) ≤ v85) ∧ (v85 < (((List.length v79) : Nat) : Int)))) then 
 bindO v79[(Int.toNat v85)]? fun x86 =>
 bindO (fork_open x86.2.2.1) fun x87 =>
 bif x87 then
 outO (outO (some (Sum.inl v85)))
 else
 some (Sum.inl (Go.IntKind.wrap .i64 (v85 + (1 : Int))))
 else none
 else
 outO (some (Sum.inl ()))) (0 : Int)) fun _ =>
 some (Sum.inl (-1 : Int))) fun v89 =>
 bif v83 then
 bif ((decide ((List.length v79) ≤ (List.length v79))) && (decide ((List.length v84) ≤ (List.length v84)))) then 
 some (Sum.inl ((List.take (List.length v79) v79), (v80, (v81, (v82, (v83, (List.take (List.length v84) v84)))))))
 else none
 else
 bif (decide (v89 ≥ (0 : Int))) then
 bif ((decide ((List.length v79) ≤ (List.length v79))) && (decide ((List.length v84) ≤ (List.length v84)))) then 
 some (Sum.inl ((List.take (List.length v79) v79), (v80, (v81, (v82, (v83, (List.take (List.length v84) v84)))))))
 else none
 else
 joinO (joinO (loopO (fun v90 =>
 bif (decide (v90 < (((List.length v79) : Nat) : Int))) then
 bif (decide (((0 : Int) ≤ v90) ∧ (v90 < (((List.length v79) : Nat) : Int)))) then 
 bindO v79[(Int.toNat v90)]? fun x91 =>
 bif (decide (x91.2.2.1 = (0 : Int))) then
 outO (outO (some (Sum.inl v90)))
 else
 some (Sum.inl (Go.IntKind.wrap .i64 (v90 + (1 : Int))))
 else none
 else
 outO (some (Sum.inl ()))) (0 : Int)) fun _ =>
 some (Sum.inl (-1 : Int))) fun v93 =>
 bif v82 then
 joinO (loopO (fun (v94, v95) =>
 bif (decide (v94 < (((List.length v79) : Nat) : Int))) then
 bif (decide (((0 : Int) ≤ v94) ∧ (v94 < (((List.length v79) : Nat) : Int)))) then 
 bindO v95[(Int.toNat v94)]? fun x96 =>
 bif (decide (x96.2.2.1 = (0 : Int))) then
 bif (decide (((0 : Int) ≤ v94) ∧ (v94 < (((List.length v79) : Nat) : Int)))) then 
 bindO v95[(Int.toNat v94)]? fun x97 =>
 some (Sum.inl ((Go.IntKind.wrap .i64 (v94 + (1 : Int))), (List.set v95 (Int.toNat v94) (x97.1, (x97.2.1, ((6 : Int), x97.2.2.2))))))
 else none
 else
 some (Sum.inl ((Go.IntKind.wrap .i64 (v94 + (1 : Int))), v95))
 else none
 else
 outO (some (Sum.inl v95))) ((0 : Int), v79)) fun v100 =>
 bif (decide ((List.length v79) ≤ (List.length v100))) then 
 bindO (fork_Best ((List.take (List.length v79) v100), (v80, (v81, (v82, Bool.true))))) fun x101 =>
 bif (decide ((List.length v84) ≤ (List.length v84))) then 
 bif (decide (((List.length ((List.take (List.length v84) v84) ++ (((6 : Int), ((-1 : Int), x101)) :: ([] : List (Int × (Int × Int)))))) * 24) ≤ 140737488355328)) then 
 bindO (some ((List.take (List.length v84) v84) ++ (((6 : Int), ((-1 : Int), x101)) :: ([] : List (Int × (Int × Int)))))) fun x102 =>
 bif ((decide ((List.length v79) ≤ (List.length v100))) && (decide ((List.length x102) ≤ (List.length x102)))) then 
 some (Sum.inl ((List.take (List.length v79) v100), (v80, (v81, (v82, (Bool.true, (List.take (List.length x102) x102)))))))
 else none
 else none
 else none
 else none
 else
 bif (decide (v93 < (0 : Int))) then
 joinO (loopO (fun (v103, v104) =>
 bif (decide (v103 < (((List.length v79) : Nat) : Int))) then
 bif (decide (((0 : Int) ≤ v103) ∧ (v103 < (((List.length v79) : Nat) : Int)))) then 
 bindO v104[(Int.toNat v103)]? fun x105 =>
 bif (decide (x105.2.2.1 = (0 : Int))) then
 bif (decide (((0 : Int) ≤ v103) ∧ (v103 < (((List.length v79) : Nat) : Int)))) then 
 bindO v104[(Int.toNat v103)]? fun x106 =>
 some (Sum.inl ((Go.IntKind.wrap .i64 (v103 + (1 : Int))), (List.set v104 (Int.toNat v103) (x106.1, (x106.2.1, ((6 : Int), x106.2.2.2))))))
 else none
 else
 some (Sum.inl ((Go.IntKind.wrap .i64 (v103 + (1 : Int))), v104))
 else none
 else
 outO (some (Sum.inl v104))) ((0 : Int), v79)) fun v109 =>
 bif (decide ((List.length v79) ≤ (List.length v109))) then 
 bindO (fork_Best ((List.take (List.length v79) v109), (v80, (v81, (v82, Bool.true))))) fun x110 =>
 bif (decide ((List.length v84) ≤ (List.length v84))) then 
 bif (decide (((List.length ((List.take (List.length v84) v84) ++ (((6 : Int), ((-1 : Int), x110)) :: ([] : List (Int × (Int × Int)))))) * 24) ≤ 140737488355328)) then 
 bindO (some ((List.take (List.length v84) v84) ++ (((6 : Int), ((-1 : Int), x110)) :: ([] : List (Int × (Int × Int)))))) fun x111 =>
 bif ((decide ((List.length v79) ≤ (List.length v109))) && (decide ((List.length x111) ≤ (List.length x111)))) then 
 some (Sum.inl ((List.take (List.length v79) v109), (v80, (v81, (v82, (Bool.true, (List.take (List.length x111) x111)))))))
 else none
 else none
 else none
 else none
 else
 bif (decide (((0 : Int) ≤ v93) ∧ (v93 < (((List.length v79) : Nat) : Int)))) then 
 bindO v79[(Int.toNat v93)]? fun x112 =>
 bif ((decide ((List.length v79) ≤ (List.length v79))) && (decide ((List.length v84) ≤ (List.length v84)))) then 
 loopO (fun (v113, (v114, (v115, (v116, (v117, (v118, v119)))))) =>
 bif (decide (v113 < (((List.length v79) : Nat) : Int))) then
 bif (decide (((0 : Int) ≤ v113) ∧ (v113 < (((List.length v114) : Nat) : Int)))) then 
 bindO v114[(Int.toNat v113)]? fun x120 =>
 bif (decide (x120.2.2.1 = (0 : Int))) then
 bif (decide (x120.2.1 = x112.2.1)) then
 bif (decide (((0 : Int) ≤ v113) ∧ (v113 < (((List.length v114) : Nat) : Int)))) then 
 bindO v114[(Int.toNat v113)]? fun x121 =>
 bif (decide ((List.length v119) ≤ (List.length v119))) then 
 bif (decide (((List.length ((List.take (List.length v119) v119) ++ (((1 : Int), (v113, (0 : Int))) :: ([] : List (Int × (Int × Int)))))) * 24) ≤ 140737488355328)) then 
 bindO (some ((List.take (List.length v119) v119) ++ (((1 : Int), (v113, (0 : Int))) :: ([] : List (Int × (Int × Int)))))) fun x122 =>
 bif ((decide ((List.length v114) ≤ (List.length (List.set v114 (Int.toNat v113) (x121.1, (x121.2.1, ((1 : Int), x121.2.2.2))))))) && (decide ((List.length x122) ≤ (List.length x122)))) then 
 some (Sum.inl ((Go.IntKind.wrap .i64 (v113 + (1 : Int))), ((List.take (List.length v114) (List.set v114 (Int.toNat v113) (x121.1, (x121.2.1, ((1 : Int), x121.2.2.2))))), (v115, (v116, (v117, (v118, (List.take (List.length x122) x122))))))))
 else none
 else none
 else none
 else none
 else
 bif ((decide ((List.length v114) ≤ (List.length v114))) && (decide ((List.length v119) ≤ (List.length v119)))) then 
 some (Sum.inl ((Go.IntKind.wrap .i64 (v113 + (1 : Int))), ((List.take (List.length v114) v114), (v115, (v116, (v117, (v118, (List.take (List.length v119) v119))))))))
 else none
 else
 bif ((decide ((List.length v114) ≤ (List.length v114))) && (decide ((List.length v119) ≤ (List.length v119)))) then 
 some (Sum.inl ((Go.IntKind.wrap .i64 (v113 + (1 : Int))), ((List.take (List.length v114) v114), (v115, (v116, (v117, (v118, (List.take (List.length v119) v119))))))))
 else none
 else none
 else
 outO (bif ((decide ((List.length v114) ≤ (List.length v114))) && (decide ((List.length v119) ≤ (List.length v119)))) then 
 some (Sum.inl ((List.take (List.length v114) v114), (v115, (v116, (v117, (v118, (List.take (List.length v119) v119)))))))
 else none)) ((0 : Int), ((List.take (List.length v79) v79), (v80, (v81, (v82, (v83, (List.take (List.length v84) v84)))))))
 else none
 else none) fun (v126, (v127, (v128, (v129, (v130, v131))))) =>
 bif ((decide ((List.length v126) ≤ (List.length v126))) && (decide ((List.length v131) ≤ (List.length v131)))) then 
 some (Sum.inl ((List.take (List.length v126) v126), (v127, (v128, (v129, (v130, (List.take (List.length v131) v131)))))))
 else none
 else none
 else none) fun (v132, (v133, (v134, (v135, (v136, v137))))) =>
 bif ((decide ((List.length v132) ≤ (List.length v132))) && (decide ((List.length v137) ≤ (List.length v137)))) then 
 some (((List.take (List.length v132) v132), (v133, (v134, (v135, v136)))), ((List.take (List.length v137) v137), (0 : Int)))
 else none
 else
 bif (decide (a6 = (3 : Int))) then
 joinO (bif (decide (((0 : Int) ≤ a7) ∧ (a7 < (((List.length x10) : Nat) : Int)))) then 
 bindO x10[(Int.toNat a7)]? fun x138 =>
 bif (decide (((0 : Int) ≤ a7) ∧ (a7 < (((List.length x10) : Nat) : Int)))) then 
 bindO (List.set x10 (Int.toNat a7) (x138.1, (x138.2.1, ((5 : Int), x138.2.2.2))))[(Int.toNat a7)]? fun x139 =>
 joinO (joinO (some (Sum.inl Bool.false)) fun v140 =>
 bif v140 then
 bindO (some (((4 : Int), (a7, (408 : Int))) :: ([] : List (Int × (Int × Int))))) fun x141 =>
 joinO (bif ((decide ((List.length x10) ≤ (List.length (List.set (List.set x10 (Int.toNat a7) (x138.1, (x138.2.1, ((5 : Int), x138.2.2.2)))) (Int.toNat a7) (x139.1, (x139.2.1, (x139.2.2.1, (408 : Int)))))))) && (decide ((List.length x141) ≤ (List.length x141)))) then 
 loopO (fun (v142, (v143, (v144, (v145, (v146, (v147, v148)))))) =>
 bif (decide (v142 < (((List.length x10) : Nat) : Int))) then
 bif (decide (((0 : Int) ≤ v142) ∧ (v142 < (((List.length v143) : Nat) : Int)))) then 
 bindO v143[(Int.toNat v142)]? fun x149 =>
 bif (decide (x149.2.2.1 = (2 : Int))) then
 bif (decide (((0 : Int) ≤ v142) ∧ (v142 < (((List.length v143) : Nat) : Int)))) then 
 bindO v143[(Int.toNat v142)]? fun x150 =>
 bif (decide ((List.length v148) ≤ (List.length v148))) then 
 bif (decide (((List.length ((List.take (List.length v148) v148) ++ (((2 : Int), (v142, (0 : Int))) :: ([] : List (Int × (Int × Int)))))) * 24) ≤ 140737488355328)) then 
 bindO (some ((List.take (List.length v148) v148) ++ (((2 : Int), (v142, (0 : Int))) :: ([] : List (Int × (Int × Int)))))) fun x151 =>
 bif ((decide ((List.length v143) ≤ (List.length (List.set v143 (Int.toNat v142) (x150.1, (x150.2.1, ((4 : Int), x150.2.2.2))))))) && (decide ((List.length x151) ≤ (List.length x151)))) then 
 some (Sum.inl ((Go.IntKind.wrap .i64 (v142 + (1 : Int))), ((List.take (List.length v143) (List.set v143 (Int.toNat v142) (x150.1, (x150.2.1, ((4 : Int), x150.2.2.2))))), (v144, (v145, (v146, (v147, (List.take (List.length x151) x151))))))))
 else none
 else none
 else none
 else none
 else
 bif (decide (x149.2.2.1 = (1 : Int))) then
 bif (decide (((0 : Int) ≤ v142) ∧ (v142 < (((List.length v143) : Nat) : Int)))) then 
 bindO v143[(Int.toNat v142)]? fun x153 =>
 bif ((decide ((List.length v143) ≤ (List.length (List.set v143 (Int.toNat v142) (x153.1, (x153.2.1, ((3 : Int), x153.2.2.2))))))) && (decide ((List.length v148) ≤ (List.length v148)))) then 
 some (Sum.inl ((Go.IntKind.wrap .i64 (v142 + (1 : Int))), ((List.take (List.length v143) (List.set v143 (Int.toNat v142) (x153.1, (x153.2.1, ((3 : Int), x153.2.2.2))))), (v144, (v145, (v146, (v147, (List.take (List.length v148) v148))))))))
 else none
 else none
 else
 bif ((decide ((List.length v143) ≤ (List.length v143))) && (decide ((List.length v148) ≤ (List.length v148)))) then 
 some (Sum.inl ((Go.IntKind.wrap .i64 (v142 + (1 : Int))), ((List.take (List.length v143) v143), (v144, (v145, (v146, (v147, (List.take (List.length v148) v148))))))))
 else none
 else none
 else
 outO (bif ((decide ((List.length v143) ≤ (List.length v143))) && (decide ((List.length v148) ≤ (List.length v148)))) then 
 some (Sum.inl ((List.take (List.length v143) v143), (v144, (v145, (v146, (v147, (List.take (List.length v148) v148)))))))
 else none)) ((0 : Int), ((List.take (List.length x10) (List.set (List.set x10 (Int.toNat a7) (x138.1, (x138.2.1, ((5 : Int), x138.2.2.2)))) (Int.toNat a7) (x139.1, (x139.2.1, (x139.2.2.1, (408 : Int)))))), (a7, (a3, (Bool.true, (Bool.true, (List.take (List.length x141) x141)))))))
 else none) fun (v156, (v157, (v158, (v159, (v160, v161))))) =>
 joinO (loopO (fun (v162, v163) =>
 bif (decide (v162 < (((List.length v156) : Nat) : Int))) then
 bif (decide (((0 : Int) ≤ v162) ∧ (v162 < (((List.length v156) : Nat) : Int)))) then 
 bindO v163[(Int.toNat v162)]? fun x164 =>
 bif (decide (x164.2.2.1 = (0 : Int))) then
 bif (decide (((0 : Int) ≤ v162) ∧ (v162 < (((List.length v156) : Nat) : Int)))) then 
 bindO v163[(Int.toNat v162)]? fun x165 =>
 some (Sum.inl ((Go.IntKind.wrap .i64 (v162 + (1 : Int))), (List.set v163 (Int.toNat v162) (x165.1, (x165.2.1, ((6 : Int), x165.2.2.2))))))
 else none
 else
 some (Sum.inl ((Go.IntKind.wrap .i64 (v162 + (1 : Int))), v163))
 else none
 else
 outO (some (Sum.inl v163))) ((0 : Int), v156)) fun v168 =>
 bif ((decide ((List.length v156) ≤ (List.length v168))) && (decide ((List.length v161) ≤ (List.length v161)))) then 
 some (Sum.inl ((List.take (List.length v156) v168), (v157, (v158, (v159, (v160, (List.take (List.length v161) v161)))))))
 else none
 else
 bif (decide ((List.length x10) ≤ (List.length (List.set (List.set x10 (Int.toNat a7) (x138.1, (x138.2.1, ((5 : Int), x138.2.2.2)))) (Int.toNat a7) (x139.1, (x139.2.1, (x139.2.2.1, (408 : Int)))))))) then 
 some (Sum.inl ((List.take (List.length x10) (List.set (List.set x10 (Int.toNat a7) (x138.1, (x138.2.1, ((5 : Int), x138.2.2.2)))) (Int.toNat a7) (x139.1, (x139.2.1, (x139.2.2.1, (408 : Int)))))), (a2, (a3, (a4, (a5, ([] : List (Int × (Int × Int)))))))))
 else none) fun (v169, (v170, (v171, (v172, (v173, v174))))) =>
 joinO (joinO (joinO (loopO (fun v175 =>
 bif (decide (v175 < (((List.length v169) : Nat) : Int))) then
 bif (decide (((0 : Int) ≤ v175) ∧ (v175 < (((List.length v169) : Nat) : Int)))) then 
 bindO v169[(Int.toNat v175)]? fun x176 =>
 bindO (fork_open x176.2.2.1) fun x177 =>
 bif x177 then
 outO (outO (some (Sum.inl v175)))
 else
 some (Sum.inl (Go.IntKind.wrap .i64 (v175 + (1 : Int))))
 else none
 else
 outO (some (Sum.inl ()))) (0 : Int)) fun _ =>
 some (Sum.inl (-1 : Int))) fun v179 =>
 bif v173 then
 bif ((decide ((List.length v169) ≤ (List.length v169))) && (decide ((List.length v174) ≤ (List.length v174)))) then 
 some (Sum.inl ((List.take (List.length v169) v169), (v170, (v171, (v172, (v173, (List.take (List.length v174) v174)))))))
 else none
 else
 bif (decide (v179 ≥ (0 : Int))) then
 bif ((decide ((List.length v169) ≤ (List.length v169))) && (decide ((List.length v174) ≤ (List.length v174)))) then 
 some (Sum.inl ((List.take (List.length v169) v169), (v170, (v171, (v172, (v173, (List.take (List.length v174) v174)))))))
 else none
 else
 joinO (joinO (loopO (fun v180 =>
 bif (decide (v180 < (((List.length v169) : Nat) : Int))) then
 bif (decide (((0 : Int) ≤ v180) ∧ (v180 < (((List.length v169) : Nat) : Int)))) then 
 bindO v169[(Int.toNat v180)]? fun x181 =>
 bif (decide (x181.2.2.1 = (0 : Int))) then
 outO (outO (some (Sum.inl v180)))
 else
 some (Sum.inl (Go.IntKind.wrap .i64 (v180 + (1 : Int))))
 else none
 else
 outO (some (Sum.inl ()))) (0 : Int)) fun _ =>
 some (Sum.inl (-1 : Int))) fun v183 =>
 bif v172 then
 joinO (loopO (fun (v184, v185) =>
 bif (decide (v184 < (((List.length v169) : Nat) : Int))) then
 bif (decide (((0 : Int) ≤ v184) ∧ (v184 < (((List.length v169) : Nat) : Int)))) then 
 bindO v185[(Int.toNat v184)]? fun x186 =>
 bif (decide (x186.2.2.1 = (0 : Int))) then
 bif (decide (((0 : Int) ≤ v184) ∧ (v184 < (((List.length v169) : Nat) : Int)))) then 
 bindO v185[(Int.toNat v184)]? fun x187 =>
 some (Sum.inl ((Go.IntKind.wrap .i64 (v184 + (1 : Int))), (List.set v185 (Int.toNat v184) (x187.1, (x187.2.1, ((6 : Int), x187.2.2.2))))))
 else none
 else
 some (Sum.inl ((Go.IntKind.wrap .i64 (v184 + (1 : Int))), v185))
 else none
 else
 outO (some (Sum.inl v185))) ((0 : Int), v169)) fun v190 =>
 bif (decide ((List.length v169) ≤ (List.length v190))) then 
 bindO (fork_Best ((List.take (List.length v169) v190), (v170, (v171, (v172, Bool.true))))) fun x191 =>
 bif (decide ((List.length v174) ≤ (List.length v174))) then 
 bif (decide (((List.length ((List.take (List.length v174) v174) ++ (((6 : Int), ((-1 : Int), x191)) :: ([] : List (Int × (Int × Int)))))) * 24) ≤ 140737488355328)) then 
 bindO (some ((List.take (List.length v174) v174) ++ (((6 : Int), ((-1 : Int), x191)) :: ([] : List (Int × (Int × Int)))))) fun x192 =>
 bif ((decide ((List.length v169) ≤ (List.length v190))) && (decide ((List.length x192) ≤ (List.length x192)))) then 
 some (Sum.inl ((List.take (List.length v169) v190), (v170, (v171, (v172, (Bool.true, (List.take (List.length x192) x192)))))))
 else none
 else none
 else none
 else none
 else
 bif (decide (v183 < (0 : Int))) then
 joinO (loopO (fun (v193, v194) =>
 bif (decide (v193 < (((List.length v169) : Nat) : Int))) then
 bif (decide (((0 : Int) ≤ v193) ∧ (v193 < (((List.length v169) : Nat) : Int)))) then 
 bindO v194[(Int.toNat v193)]? fun x195 =>
 bif (decide (x195.2.2.1 = (0 : Int))) then
 bif (decide (((0 : Int) ≤ v193) ∧ (v193 < (((List.length v169) : Nat) : Int)))) then 
 bindO v194[(Int.toNat v193)]? fun x196 =>
 some (Sum.inl ((Go.IntKind.wrap .i64 (v193 + (1 : Int))), (List.set v194 (Int.toNat v193) (x196.1, (x196.2.1, ((6 : Int), x196.2.2.2))))))
 else none
 else
 some (Sum.inl ((Go.IntKind.wrap .i64 (v193 + (1 : Int))), v194))
 else none
 else
 outO (some (Sum.inl v194))) ((0 : Int), v169)) fun v199 =>
 bif (decide ((List.length v169) ≤ (List.length v199))) then 
 bindO (fork_Best ((List.take (List.length v169) v199), (v170, (v171, (v172, Bool.true))))) fun x200 =>
 bif (decide ((List.length v174) ≤ (List.length v174))) then 
 bif (decide (((List.length ((List.take (List.length v174) v174) ++ (((6 : Int), ((-1 : Int), x200)) :: ([] : List (Int × (Int × Int)))))) * 24) ≤ 140737488355328)) then 
 bindO (some ((List.take (List.length v174) v174) ++ (((6 : Int), ((-1 : Int), x200)) :: ([] : List (Int × (Int × Int)))))) fun x201 =>
 bif ((decide ((List.length v169) ≤ (List.length v199))) && (decide ((List.length x201) ≤ (List.length x201)))) then 
 some (Sum.inl ((List.take (List.length v169) v199), (v170, (v171, (v172, (Bool.true, (List.take (List.length x201) x201)))))))
 else none
 else none
 else none
 else none
 else
 bif (decide (((0 : Int) ≤ v183) ∧ (v183 < (((List.length v169) : Nat) : Int)))) then 
 bindO v169[(Int.toNat v183)]? fun x202 =>
 bif ((decide ((List.length v169) ≤ (List.length v169))) && (decide ((List.length v174) ≤ (List.length v174)))) then 
 loopO (fun (v203, (v204, (v205, (v206, (v207, (v208, v209)))))) =>
 bif (decide (v203 < (((List.length v169) : Nat) : Int))) then
 bif (decide (((0 : Int) ≤ v203) ∧ (v203 < (((List.length v204) : Nat) : Int)))) then 
 bindO v204[(Int.toNat v203)]? fun x210 =>
 bif (decide (x210.2.2.1 = (0 : Int))) then
 bif (decide (x210.2.1 = x202.2.1)) then
 bif (decide (((0 : Int) ≤ v203) ∧ (v203 < (((List.length v204) : Nat) : Int)))) then 
 bindO v204[(Int.toNat v203)]? fun x211 =>
 bif (decide ((List.length v209) ≤ (List.length v209))) then 
 bif (decide (((List.length ((List.take (List.length v209) v209) ++ (((1 : Int), (v203, (0 : Int))) :: ([] : List (Int × (Int × Int)))))) * 24) ≤ 140737488355328)) then 
 bindO (some ((List.take (List.length v209) v209) ++ (((1 : Int), (v203, (0 : Int))) :: ([] : List (Int × (Int × Int)))))) fun x212 =>
 bif ((decide ((List.length v204) ≤ (List.length (List.set v204 (Int.toNat v203) (x211.1, (x211.2.1, ((1 : Int), x211.2.2.2))))))) && (decide ((List.length x212) ≤ (List.length x212)))) then 
 some (Sum.inl ((Go.IntKind.wrap .i64 (v203 + (1 : Int))), ((List.take (List.length v204) (List.set v204 (Int.toNat v203) (x211.1, (x211.2.1, ((1 : Int), x211.2.2.2))))), (v205, (v206, (v207, (v208, (List.take (List.length x212) x212))))))))
 else none
 else none
 else none
 else none
 else
 bif ((decide ((List.length v204) ≤ (List.length v204))) && (decide ((List.length v209) ≤ (List.length v209)))) then 
 some (Sum.inl ((Go.IntKind.wrap .i64 (v203 + (1 : Int))), ((List.take (List.length v204) v204), (v205, (v206, (v207, (v208, (List.take (List.length v209) v209))))))))
 else none
 else
 bif ((decide ((List.length v204) ≤ (List.length v204))) && (decide ((List.length v209) ≤ (List.length v209)))) then 
 some (Sum.inl ((Go.IntKind.wrap .i64 (v203 + (1 : Int))), ((List.take (List.length v204) v204), (v205, (v206, (v207, (v208, (List.take (List.length v209) v209))))))))
 else none
 else none
 else
 outO (bif ((decide ((List.length v204) ≤ (List.length v204))) && (decide ((List.length v209) ≤ (List.length v209)))) then 
 some (Sum.inl ((List.take (List.length v204) v204), (v205, (v206, (v207, (v208, (List.take (List.length v209) v209)))))))
 else none)) ((0 : Int), ((List.take (List.length v169) v169), (v170, (v171, (v172, (v173, (List.take (List.length v174) v174)))))))
 else none
 else none) fun (v216, (v217, (v218, (v219, (v220, v221))))) =>
 bif ((decide ((List.length v216) ≤ (List.length v216))) && (decide ((List.length v221) ≤ (List.length v221)))) then 
 some (Sum.inl ((List.take (List.length v216) v216), (v217, (v218, (v219, (v220, (List.take (List.length v221) v221)))))))
 else none
 else none
 else none) fun (v222, (v223, (v224, (v225, (v226, v227))))) =>
 bif ((decide ((List.length v222) ≤ (List.length v222))) && (decide ((List.length v227) ≤ (List.length v227)))) then 
 some (((List.take (List.length v222) v222), (v223, (v224, (v225, v226)))), ((List.take (List.length v227) v227), (0 : Int)))
 else none
 else
 bif (decide (a6 = (4 : Int))) then
 joinO (bif (decide ((List.length x10) ≤ (List.length x10))) then 
 loopO (fun (v228, (v229, (v230, (v231, (v232, (v233, v234)))))) =>
 bif (decide (v228 < (((List.length x10) : Nat) : Int))) then
 bif (decide (((0 : Int) ≤ v228) ∧ (v228 < (((List.length v229) : Nat) : Int)))) then 
 bindO v229[(Int.toNat v228)]? fun x235 =>
 bif (decide (x235.2.2.1 = (2 : Int))) then
 bif (decide (((0 : Int) ≤ v228) ∧ (v228 < (((List.length v229) : Nat) : Int)))) then 
 bindO v229[(Int.toNat v228)]? fun x236 =>
 bif (decide ((List.length v234) ≤ (List.length v234))) then 
 bif (decide (((List.length ((List.take (List.length v234) v234) ++ (((2 : Int), (v228, (0 : Int))) :: ([] : List (Int × (Int × Int)))))) * 24) ≤ 140737488355328)) then 
 bindO (some ((List.take (List.length v234) v234) ++ (((2 : Int), (v228, (0 : Int))) :: ([] : List (Int × (Int × Int)))))) fun x237 =>
 bif ((decide ((List.length v229) ≤ (List.length (List.set v229 (Int.toNat v228) (x236.1, (x236.2.1, ((4 : Int), x236.2.2.2))))))) && (decide ((List.length x237) ≤ (List.length x237)))) then 
 some (Sum.inl ((Go.IntKind.wrap .i64 (v228 + (1 : Int))), ((List.take (List.length v229) (List.set v229 (Int.toNat v228) (x236.1, (x236.2.1, ((4 : Int), x236.2.2.2))))), (v230, (v231, (v232, (v233, (List.take (List.length x237) x237))))))))
 else none
 else none
 else none
 else none
 else
 bif (decide (x235.2.2.1 = (1 : Int))) then
 bif (decide (((0 : Int) ≤ v228) ∧ (v228 < (((List.length v229) : Nat) : Int)))) then 
 bindO v229[(Int.toNat v228)]? fun x239 =>
 bif ((decide ((List.length v229) ≤ (List.length (List.set v229 (Int.toNat v228) (x239.1, (x239.2.1, ((3 : Int), x239.2.2.2))))))) && (decide ((List.length v234) ≤ (List.length v234)))) then 
 some (Sum.inl ((Go.IntKind.wrap .i64 (v228 + (1 : Int))), ((List.take (List.length v229) (List.set v229 (Int.toNat v228) (x239.1, (x239.2.1, ((3 : Int), x239.2.2.2))))), (v230, (v231, (v232, (v233, (List.take (List.length v234) v234))))))))
 else none
 else none
 else
 bif ((decide ((List.length v229) ≤ (List.length v229))) && (decide ((List.length v234) ≤ (List.length v234)))) then 
 some (Sum.inl ((Go.IntKind.wrap .i64 (v228 + (1 : Int))), ((List.take (List.length v229) v229), (v230, (v231, (v232, (v233, (List.take (List.length v234) v234))))))))
 else none
 else none
 else
 outO (bif ((decide ((List.length v229) ≤ (List.length v229))) && (decide ((List.length v234) ≤ (List.length v234)))) then 
 some (Sum.inl ((List.take (List.length v229) v229), (v230, (v231, (v232, (v233, (List.take (List.length v234) v234)))))))
 else none)) ((0 : Int), ((List.take (List.length x10) x10), (a2, (Bool.true, (Bool.true, (a5, ([] : List (Int × (Int × Int)))))))))
 else none) fun (v242, (v243, (v244, (v245, (v246, v247))))) =>
 bif ((decide ((List.length v242) ≤ (List.length v242))) && (decide ((List.length v247) ≤ (List.length v247)))) then 
 some (((List.take (List.length v242) v242), (v243, (v244, (v245, v246)))), ((List.take (List.length v247) v247), (0 : Int)))
 else none
 else
 bif (decide ((List.length x10) ≤ (List.length x10))) then 
 some (((List.take (List.length x10) x10), (a2, (a3, (a4, a5)))), (([] : List (Int × (Int × Int))), (0 : Int)))
 else none
noncomputable def cons20 : List (Nat × CE) := (10, ⟨[], riB, (fun _ => some true)⟩) :: (19, ⟨[], riB, (fun _ => some true)⟩) :: (62, ⟨[], riB, (fun _ => none)⟩) :: (37, ⟨[.tmp 0 false [.dat (.list (.pair .str (.pair (.int .i64) (.pair (.int .u8) (.int .i64)))))]], [.tmp 0 false [.own 1 49 (.pair .str (.pair (.int .i64) (.pair (.int .u8) (.int .i64))))]], cloneG⟩) :: (21, ⟨[(.tmp 0 true [(.dat (.list (.pair .str (.pair (.int .i64) (.pair (.int .u8) (.int .i64)))))), (.dat (.int .i64)), (.dat .bool), (.dat .bool), (.dat .bool)]), (.tmp 1 true [(.dat (.int .u8)), (.dat (.int .i64)), (.dat (.int .i64))])], [(.tmp 0 true [(.dat (.list (.pair .str (.pair (.int .i64) (.pair (.int .u8) (.int .i64)))))), (.dat (.int .i64)), (.dat .bool), (.dat .bool), (.dat .bool)]), (.tmp 1 false [(.dat (.list (.pair (.int .u8) (.pair (.int .i64) (.int .i64)))))]), (.tmp 2 false [(.dat (.int .u8))])], dialtoneref23_Step⟩) :: cons21
theorem cons20_ok : ConL Try.prog cons20 := ⟨con_true (by kernel_rfl) known_o, ⟨con_true (by kernel_rfl) live_o, ⟨noSym, ⟨clone_con37, ⟨con21, cons21_ok⟩⟩⟩⟩⟩
theorem con20 : ConOk Try.prog 20 ⟨[(.tmp 0 true [(.dat (.list (.pair .str (.pair (.int .i64) (.pair (.int .u8) (.int .i64)))))), (.dat (.int .i64)), (.dat .bool), (.dat .bool), (.dat .bool)]), (.tmp 1 true [(.dat (.int .u8)), (.dat (.int .i64)), (.dat (.int .i64))])], [(.tmp 0 true [(.dat (.list (.pair .str (.pair (.int .i64) (.pair (.int .u8) (.int .i64)))))), (.dat (.int .i64)), (.dat .bool), (.dat .bool), (.dat .bool)]), (.tmp 1 false [(.dat (.list (.pair (.int .u8) (.pair (.int .i64) (.int .i64)))))]), (.tmp 2 false [(.dat (.int .u8))])], fork_Step⟩ :=
  tree_ok (plan := planOf plan20) (eg := egNo) KK tabL_ok (conOf_ok cons20_ok) Try.func20 (by kernel_rfl) (by kernel_rfl) 10000 (fun a r h => Eq.trans (show _ = fork_Step a from by kernel_rfl) h)
def plan11 : List (Nat × PL) := [(68853957121, (.carry [.mp 6])), (9241421688456087558, (.carry [.tmp 18 false [(.dat (.int .i64))], .mp 6])), (18049651735527937, (.carry [.mix 10 [(.own 10000002 49 (.pair .str (.pair (.int .i64) (.pair (.int .u8) (.int .i64))))), (.dat (.int .i64)), (.dat .bool), (.dat .bool), (.dat .bool), .nil]])), (166478653090017823607932723020169729, (.carry [])), (2422583247133816450713606, (.carry [.tmp 49 false [(.dat (.int .i64))], .mix 10 [(.own 10000001 49 (.pair .str (.pair (.int .i64) (.pair (.int .u8) (.int .i64))))), (.dat (.int .i64)), (.dat .bool), (.dat .bool), (.dat .bool), .nil]])), (2422583247133816584676884, (.carry [.row 10000002 49 (.pair .str (.pair (.int .i64) (.pair (.int .u8) (.int .i64))))])), (325153619321163373964050984862209, (.carry [])), (2422583247133816584929296, (.carry [.mix 10 [(.own 10000003 49 (.pair .str (.pair (.int .i64) (.pair (.int .u8) (.int .i64))))), (.dat (.int .i64)), (.dat .bool), (.dat .bool), (.dat .bool), (.own 10000004 53 (.pair (.int .u8) (.pair (.int .i64) (.int .i64))))], .dead 10000002])), (85237070383327051504432181375718656006, .once), (85237070383327051504432181375718916116, (.carry [.row 10000002 49 (.pair .str (.pair (.int .i64) (.pair (.int .u8) (.int .i64))))])), (85237070383327051513313139037370056722, (.carry [.tmp 0 false [(.dat (.int .i64))]])), (5857446875251837918138301088938430656685638942740, (.carry [.row 10000002 49 (.pair .str (.pair (.int .i64) (.pair (.int .u8) (.int .i64))))])), (11440325928226245933863869314332907287712368646, (.carry [.tmp 8 false [(.dat (.int .i64))], .row 10000002 49 (.pair .str (.pair (.int .i64) (.pair (.int .u8) (.int .i64))))])), (43641380036263450370269276864368085305350, .once), (22344386578566886591905959519812336149332481, (.carry [])), (786173211477001113196772761937242094625894469122885158918, (.carry [.tmp 8 false [(.dat (.int .i64))], .row 10000002 49 (.pair .str (.pair (.int .i64) (.pair (.int .u8) (.int .i64))))])), (43641380036263450370269276864367951875590, .stop), (2999012800128941014086810157536485648030071166337537, (.carry [.tmp 9 false [(.dat (.int .i64))], .row 10000002 49 (.pair .str (.pair (.int .i64) (.pair (.int .u8) (.int .i64))))])), (2999012800128941014086810157536485665481862916604417, (.carry [])), (2999012800128941014399281076409182744335674182469638, (.carry [.tmp 8 false [(.dat (.int .i64))]])), (206090590349426979817854798905276391653610479713749607099400705, (.carry [.tmp 9 false [(.dat (.int .i64))], .row 10000002 49 (.pair .str (.pair (.int .i64) (.pair (.int .u8) (.int .i64))))])), (206090590349426979817854798905277020561000359743556692012697606, (.carry [.tmp 9 false [(.dat (.int .i64))], .row 10000002 49 (.pair .str (.pair (.int .i64) (.pair (.int .u8) (.int .i64))))])), (786173211477001113196772761937244498292077472410348029958, .once), (22344386578566886589577869754556459676339718, .stop), (166478653092435647486939724811337749, (.carry [.tmp 0 false [(.dat (.int .i64))]])), (14162437529025953450523814370797099263890309931094816064396407118607157254, (.carry [.tmp 9 false [(.dat (.int .i64))], .row 10000002 49 (.pair .str (.pair (.int .i64) (.pair (.int .u8) (.int .i64))))])), (43641380036263450374816327220943322874369, (.carry [])), (11440325928226245935055851283007000172841926673, (.carry [.row 10000002 49 (.pair .str (.pair (.int .i64) (.pair (.int .u8) (.int .i64))))])), (5857446875251837918748595856899566812968102660102, (.carry [.tmp 8 false [(.dat (.int .i64))]])), (1535494553666017799372431912311084571294450701192923142, (.carry [.tmp 9 false [(.dat (.int .i64))], .row 10000002 49 (.pair .str (.pair (.int .i64) (.pair (.int .u8) (.int .i64))))])), (5857446875251837918748595856899584123679304583174, (.carry [.tmp 65 false [(.dat (.int .i64))], .mix 10 [(.own 10000005 49 (.pair .str (.pair (.int .i64) (.pair (.int .u8) (.int .i64))))), (.dat (.int .i64)), (.dat .bool), (.dat .bool), (.dat .bool), (.own 10000006 53 (.pair (.int .u8) (.pair (.int .i64) (.int .i64))))], .dead 10000002]))]
noncomputable def fork_New : (List ((List UInt8) × Int)) → Option (((List ((List UInt8) × (Int × (Int × Int)))) × (Int × (Bool × (Bool × Bool)))) × ((List (Int × (Int × Int))) × Int)) := fun a1 =>
 bif (decide ((((List.length a1) : Nat) : Int) > (16 : Int))) then
 some ((([] : List ((List UInt8) × (Int × (Int × Int)))), ((0 : Int), (Bool.false, (Bool.false, Bool.false)))), (([] : List (Int × (Int × Int))), (4 : Int)))
 else
 joinO (loopO (fun (v2, v3) =>
 bif (decide (v2 < (((List.length a1) : Nat) : Int))) then
 bif (decide (((0 : Int) ≤ v2) ∧ (v2 < (((List.length a1) : Nat) : Int)))) then 
 bindO a1[(Int.toNat v2)]? fun x4 =>
 joinO (bif (decide (x4.1 = ([] : List UInt8))) then
 outO (outO (outO (some ((([] : List ((List UInt8) × (Int × (Int × Int)))), ((0 : Int), (Bool.false, (Bool.false, Bool.false)))), (([] : List (Int × (Int × Int))), (2 : Int))))))
 else
 bif (decide (x4.2 < (0 : Int))) then
 outO (outO (outO (some ((([] : List ((List UInt8) × (Int × (Int × Int)))), ((0 : Int), (Bool.false, (Bool.false, Bool.false)))), (([] : List (Int × (Int × Int))), (2 : Int))))))
 else
 bif (decide (x4.2 > (1000 : Int))) then
 outO (outO (outO (some ((([] : List ((List UInt8) × (Int × (Int × Int)))), ((0 : Int), (Bool.false, (Bool.false, Bool.false)))), (([] : List (Int × (Int × Int))), (2 : Int))))))
 else
 some (Sum.inl ())) fun _ =>
 bif (decide (Membership.mem v3 x4.1)) then
 outO (outO (some ((([] : List ((List UInt8) × (Int × (Int × Int)))), ((0 : Int), (Bool.false, (Bool.false, Bool.false)))), (([] : List (Int × (Int × Int))), (7 : Int)))))
 else
 some (Sum.inl ((Go.IntKind.wrap .i64 (v2 + (1 : Int))), (addK v3 x4.1)))
 else none
 else
 outO (some (Sum.inl v3))) ((0 : Int), ([] : List (List UInt8)))) fun v6 =>
 joinO (loopO (fun (v7, (v8, (v9, (v10, (v11, v12))))) =>
 bif (decide (v7 < (((List.length a1) : Nat) : Int))) then
 bif (decide (((0 : Int) ≤ v7) ∧ (v7 < (((List.length a1) : Nat) : Int)))) then 
 bindO a1[(Int.toNat v7)]? fun x13 =>
 bif (decide ((List.length v8) ≤ (List.length v8))) then 
 bif (decide (((List.length ((List.take (List.length v8) v8) ++ ((x13.1, (x13.2, ((0 : Int), (0 : Int)))) :: ([] : List ((List UInt8) × (Int × (Int × Int))))))) * 40) ≤ 140737488355328)) then 
 bindO (some ((List.take (List.length v8) v8) ++ ((x13.1, (x13.2, ((0 : Int), (0 : Int)))) :: ([] : List ((List UInt8) × (Int × (Int × Int))))))) fun x14 =>
 bif (decide ((List.length x14) ≤ (List.length x14))) then 
 some (Sum.inl ((Go.IntKind.wrap .i64 (v7 + (1 : Int))), ((List.take (List.length x14) x14), (v9, (v10, (v11, v12))))))
 else none
 else none
 else none
 else none
 else
 outO (bif (decide ((List.length v8) ≤ (List.length v8))) then 
 some (Sum.inl ((List.take (List.length v8) v8), (v9, (v10, (v11, v12)))))
 else none)) ((0 : Int), (([] : List ((List UInt8) × (Int × (Int × Int)))), ((-1 : Int), (Bool.false, (Bool.false, Bool.false)))))) fun (v16, (v17, (v18, (v19, v20)))) =>
 joinO (joinO (bif (decide ((20 : Int) ≤ (((List.length v16) : Nat) : Int))) then
 joinO (loopO (fun (v21, v22) =>
 bif (decide (v21 < (20 : Int))) then
 joinO (loopO (fun (v23, v24) =>
 bif (decide (v23 > (0 : Int))) then
 bif (decide (((0 : Int) ≤ v23) ∧ (v23 < (((List.length v16) : Nat) : Int)))) then 
 bindO v24[(Int.toNat v23)]? fun x25 =>
 bindO (some (Go.IntKind.wrap .i64 (v23 - (1 : Int)))) fun x26 =>
 bif (decide (((0 : Int) ≤ x26) ∧ (x26 < (((List.length v16) : Nat) : Int)))) then 
 bindO v24[(Int.toNat x26)]? fun x27 =>
 bif (decide ((Go.IntKind.wrap .i64 (x27.2.1 - x25.2.1)) < (0 : Int))) then
 bindO (some (Go.IntKind.wrap .i64 (v23 - (1 : Int)))) fun x29 =>
 bindO (some (Go.IntKind.wrap .i64 (v23 - (1 : Int)))) fun x30 =>
 bif (decide (((0 : Int) ≤ x30) ∧ (x30 < (((List.length v16) : Nat) : Int)))) then 
 bindO v24[(Int.toNat x30)]? fun x31 =>
 bif (decide (((0 : Int) ≤ v23) ∧ (v23 < (((List.length v16) : Nat) : Int)))) then 
 bindO v24[(Int.toNat v23)]? fun x32 =>
 bif (decide (((0 : Int) ≤ v23) ∧ (v23 < (((List.length v16) : Nat) : Int)))) then 
 bindO v24[(Int.toNat v23)]? fun x33 =>
 bif (decide (((0 : Int) ≤ x29) ∧ (x29 < (((List.length v16) : Nat) : Int)))) then 
 bindO (List.set v24 (Int.toNat v23) (x31.1, (x31.2.1, (x31.2.2.1, x31.2.2.2))))[(Int.toNat x29)]? fun x34 =>
 some (Sum.inl ((Go.IntKind.wrap .i64 (v23 - (1 : Int))), (List.set (List.set v24 (Int.toNat v23) (x31.1, (x31.2.1, (x31.2.2.1, x31.2.2.2)))) (Int.toNat x29) (x32.1, (x32.2.1, (x32.2.2.1, x32.2.2.2))))))
 else none
 else none
 else none
 else none
 else
 outO (some (Sum.inl (v23, v24)))
 else none
 else none
 else
 outO (some (Sum.inl (v23, v24)))) (v21, v22)) fun (v36, v37) =>
 some (Sum.inl ((Go.IntKind.wrap .i64 (v21 + (1 : Int))), v37))
 else
 outO (some (Sum.inl v22))) ((1 : Int), v16)) fun v39 =>
 none 
 else
 some (Sum.inl ())) fun _ =>
 joinO (loopO (fun (v40, v41) =>
 bif (decide (v40 < (((List.length v16) : Nat) : Int))) then
 joinO (loopO (fun (v42, v43) =>
 bif (decide (v42 > (0 : Int))) then
 bif (decide (((0 : Int) ≤ v42) ∧ (v42 < (((List.length v16) : Nat) : Int)))) then 
 bindO v43[(Int.toNat v42)]? fun x44 =>
 bindO (some (Go.IntKind.wrap .i64 (v42 - (1 : Int)))) fun x45 =>
 bif (decide (((0 : Int) ≤ x45) ∧ (x45 < (((List.length v16) : Nat) : Int)))) then 
 bindO v43[(Int.toNat x45)]? fun x46 =>
 bif (decide ((Go.IntKind.wrap .i64 (x46.2.1 - x44.2.1)) < (0 : Int))) then
 bindO (some (Go.IntKind.wrap .i64 (v42 - (1 : Int)))) fun x48 =>
 bindO (some (Go.IntKind.wrap .i64 (v42 - (1 : Int)))) fun x49 =>
 bif (decide (((0 : Int) ≤ x49) ∧ (x49 < (((List.length v16) : Nat) : Int)))) then 
 bindO v43[(Int.toNat x49)]? fun x50 =>
 bif (decide (((0 : Int) ≤ v42) ∧ (v42 < (((List.length v16) : Nat) : Int)))) then 
 bindO v43[(Int.toNat v42)]? fun x51 =>
 bif (decide (((0 : Int) ≤ v42) ∧ (v42 < (((List.length v16) : Nat) : Int)))) then 
 bindO v43[(Int.toNat v42)]? fun x52 =>
 bif (decide (((0 : Int) ≤ x48) ∧ (x48 < (((List.length v16) : Nat) : Int)))) then 
 bindO (List.set v43 (Int.toNat v42) (x50.1, (x50.2.1, (x50.2.2.1, x50.2.2.2))))[(Int.toNat x48)]? fun x53 =>
 some (Sum.inl ((Go.IntKind.wrap .i64 (v42 - (1 : Int))), (List.set (List.set v43 (Int.toNat v42) (x50.1, (x50.2.1, (x50.2.2.1, x50.2.2.2)))) (Int.toNat x48) (x51.1, (x51.2.1, (x51.2.2.1, x51.2.2.2))))))
 else none
 else none
 else none
 else none
 else
 outO (some (Sum.inl (v42, v43)))
 else none
 else none
 else
 outO (some (Sum.inl (v42, v43)))) (v40, v41)) fun (v55, v56) =>
 some (Sum.inl ((Go.IntKind.wrap .i64 (v40 + (1 : Int))), v56))
 else
 outO (some (Sum.inl v41))) ((1 : Int), v16)) fun v58 =>
 bif (decide ((20 : Int) < (((List.length v16) : Nat) : Int))) then
 joinO (bif (decide ((40 : Int) ≤ (((List.length v16) : Nat) : Int))) then
 none 
 else
 some (Sum.inl ())) fun _ =>
 bif (decide ((20 : Int) < (((List.length v16) : Nat) : Int))) then
 none 
 else
 none 
 else
 some (Sum.inl v58)) fun v59 =>
 joinO (joinO (joinO (loopO (fun v60 =>
 bif (decide (v60 < (((List.length v16) : Nat) : Int))) then
 bif (decide (((0 : Int) ≤ v60) ∧ (v60 < (((List.length v16) : Nat) : Int)))) then 
 bindO v59[(Int.toNat v60)]? fun x61 =>
 bindO (fork_open x61.2.2.1) fun x62 =>
 bif x62 then
 outO (outO (some (Sum.inl v60)))
 else
 some (Sum.inl (Go.IntKind.wrap .i64 (v60 + (1 : Int))))
 else none
 else
 outO (some (Sum.inl ()))) (0 : Int)) fun _ =>
 some (Sum.inl (-1 : Int))) fun v64 =>
 bif v20 then
 bif (decide ((List.length v16) ≤ (List.length v59))) then 
 some (Sum.inl ((List.take (List.length v16) v59), (v17, (v18, (v19, (v20, ([] : List (Int × (Int × Int)))))))))
 else none
 else
 bif (decide (v64 ≥ (0 : Int))) then
 bif (decide ((List.length v16) ≤ (List.length v59))) then 
 some (Sum.inl ((List.take (List.length v16) v59), (v17, (v18, (v19, (v20, ([] : List (Int × (Int × Int)))))))))
 else none
 else
 joinO (joinO (loopO (fun v65 =>
 bif (decide (v65 < (((List.length v16) : Nat) : Int))) then
 bif (decide (((0 : Int) ≤ v65) ∧ (v65 < (((List.length v16) : Nat) : Int)))) then 
 bindO v59[(Int.toNat v65)]? fun x66 =>
 bif (decide (x66.2.2.1 = (0 : Int))) then
 outO (outO (some (Sum.inl v65)))
 else
 some (Sum.inl (Go.IntKind.wrap .i64 (v65 + (1 : Int))))
 else none
 else
 outO (some (Sum.inl ()))) (0 : Int)) fun _ =>
 some (Sum.inl (-1 : Int))) fun v68 =>
 bif v19 then
 joinO (loopO (fun (v69, v70) =>
 bif (decide (v69 < (((List.length v16) : Nat) : Int))) then
 bif (decide (((0 : Int) ≤ v69) ∧ (v69 < (((List.length v16) : Nat) : Int)))) then 
 bindO v70[(Int.toNat v69)]? fun x71 =>
 bif (decide (x71.2.2.1 = (0 : Int))) then
 bif (decide (((0 : Int) ≤ v69) ∧ (v69 < (((List.length v16) : Nat) : Int)))) then 
 bindO v70[(Int.toNat v69)]? fun x72 =>
 some (Sum.inl ((Go.IntKind.wrap .i64 (v69 + (1 : Int))), (List.set v70 (Int.toNat v69) (x72.1, (x72.2.1, ((6 : Int), x72.2.2.2))))))
 else none
 else
 some (Sum.inl ((Go.IntKind.wrap .i64 (v69 + (1 : Int))), v70))
 else none
 else
 outO (some (Sum.inl v70))) ((0 : Int), v59)) fun v75 =>
 bif (decide ((List.length v16) ≤ (List.length v75))) then 
 bindO (fork_Best ((List.take (List.length v16) v75), (v17, (v18, (v19, Bool.true))))) fun x76 =>
 bindO (some (((6 : Int), ((-1 : Int), x76)) :: ([] : List (Int × (Int × Int))))) fun x77 =>
 bif ((decide ((List.length v16) ≤ (List.length v75))) && (decide ((List.length x77) ≤ (List.length x77)))) then 
 some (Sum.inl ((List.take (List.length v16) v75), (v17, (v18, (v19, (Bool.true, (List.take (List.length x77) x77)))))))
 else none
 else none
 else
 bif (decide (v68 < (0 : Int))) then
 joinO (loopO (fun (v78, v79) =>
 bif (decide (v78 < (((List.length v16) : Nat) : Int))) then
 bif (decide (((0 : Int) ≤ v78) ∧ (v78 < (((List.length v16) : Nat) : Int)))) then 
 bindO v79[(Int.toNat v78)]? fun x80 =>
 bif (decide (x80.2.2.1 = (0 : Int))) then
 bif (decide (((0 : Int) ≤ v78) ∧ (v78 < (((List.length v16) : Nat) : Int)))) then 
 bindO v79[(Int.toNat v78)]? fun x81 =>
 some (Sum.inl ((Go.IntKind.wrap .i64 (v78 + (1 : Int))), (List.set v79 (Int.toNat v78) (x81.1, (x81.2.1, ((6 : Int), x81.2.2.2))))))
 else none
 else
 some (Sum.inl ((Go.IntKind.wrap .i64 (v78 + (1 : Int))), v79))
 else none
 else
 outO (some (Sum.inl v79))) ((0 : Int), v59)) fun v84 =>
 bif (decide ((List.length v16) ≤ (List.length v84))) then 
 bindO (fork_Best ((List.take (List.length v16) v84), (v17, (v18, (v19, Bool.true))))) fun x85 =>
 bindO (some (((6 : Int), ((-1 : Int), x85)) :: ([] : List (Int × (Int × Int))))) fun x86 =>
 bif ((decide ((List.length v16) ≤ (List.length v84))) && (decide ((List.length x86) ≤ (List.length x86)))) then 
 some (Sum.inl ((List.take (List.length v16) v84), (v17, (v18, (v19, (Bool.true, (List.take (List.length x86) x86)))))))
 else none
 else none
 else
 bif (decide (((0 : Int) ≤ v68) ∧ (v68 < (((List.length v16) : Nat) : Int)))) then 
 bindO v59[(Int.toNat v68)]? fun x87 =>
 bif (decide ((List.length v16) ≤ (List.length v59))) then 
 loopO (fun (v88, (v89, (v90, (v91, (v92, (v93, v94)))))) =>
 bif (decide (v88 < (((List.length v16) : Nat) : Int))) then
 bif (decide (((0 : Int) ≤ v88) ∧ (v88 < (((List.length v89) : Nat) : Int)))) then 
 bindO v89[(Int.toNat v88)]? fun x95 =>
 bif (decide (x95.2.2.1 = (0 : Int))) then
 bif (decide (x95.2.1 = x87.2.1)) then
 bif (decide (((0 : Int) ≤ v88) ∧ (v88 < (((List.length v89) : Nat) : Int)))) then 
 bindO v89[(Int.toNat v88)]? fun x96 =>
 bif (decide ((List.length v94) ≤ (List.length v94))) then 
 bif (decide (((List.length ((List.take (List.length v94) v94) ++ (((1 : Int), (v88, (0 : Int))) :: ([] : List (Int × (Int × Int)))))) * 24) ≤ 140737488355328)) then 
 bindO (some ((List.take (List.length v94) v94) ++ (((1 : Int), (v88, (0 : Int))) :: ([] : List (Int × (Int × Int)))))) fun x97 =>
 bif ((decide ((List.length v89) ≤ (List.length (List.set v89 (Int.toNat v88) (x96.1, (x96.2.1, ((1 : Int), x96.2.2.2))))))) && (decide ((List.length x97) ≤ (List.length x97)))) then 
 some (Sum.inl ((Go.IntKind.wrap .i64 (v88 + (1 : Int))), ((List.take (List.length v89) (List.set v89 (Int.toNat v88) (x96.1, (x96.2.1, ((1 : Int), x96.2.2.2))))), (v90, (v91, (v92, (v93, (List.take (List.length x97) x97))))))))
 else none
 else none
 else none
 else none
 else
 bif ((decide ((List.length v89) ≤ (List.length v89))) && (decide ((List.length v94) ≤ (List.length v94)))) then 
 some (Sum.inl ((Go.IntKind.wrap .i64 (v88 + (1 : Int))), ((List.take (List.length v89) v89), (v90, (v91, (v92, (v93, (List.take (List.length v94) v94))))))))
 else none
 else
 bif ((decide ((List.length v89) ≤ (List.length v89))) && (decide ((List.length v94) ≤ (List.length v94)))) then 
 some (Sum.inl ((Go.IntKind.wrap .i64 (v88 + (1 : Int))), ((List.take (List.length v89) v89), (v90, (v91, (v92, (v93, (List.take (List.length v94) v94))))))))
 else none
 else none
 else
 outO (bif ((decide ((List.length v89) ≤ (List.length v89))) && (decide ((List.length v94) ≤ (List.length v94)))) then 
 some (Sum.inl ((List.take (List.length v89) v89), (v90, (v91, (v92, (v93, (List.take (List.length v94) v94)))))))
 else none)) ((0 : Int), ((List.take (List.length v16) v59), (v17, (v18, (v19, (v20, ([] : List (Int × (Int × Int)))))))))
 else none
 else none) fun (v101, (v102, (v103, (v104, (v105, v106))))) =>
 bif ((decide ((List.length v101) ≤ (List.length v101))) && (decide ((List.length v106) ≤ (List.length v106)))) then 
 some (((List.take (List.length v101) v101), (v102, (v103, (v104, v105)))), ((List.take (List.length v106) v106), (0 : Int)))
 else none
noncomputable def cons11 : List (Nat × CE) := (20, ⟨[(.tmp 0 true [(.dat (.list (.pair .str (.pair (.int .i64) (.pair (.int .u8) (.int .i64)))))), (.dat (.int .i64)), (.dat .bool), (.dat .bool), (.dat .bool)]), (.tmp 1 true [(.dat (.int .u8)), (.dat (.int .i64)), (.dat (.int .i64))])], [(.tmp 0 true [(.dat (.list (.pair .str (.pair (.int .i64) (.pair (.int .u8) (.int .i64)))))), (.dat (.int .i64)), (.dat .bool), (.dat .bool), (.dat .bool)]), (.tmp 1 false [(.dat (.list (.pair (.int .u8) (.pair (.int .i64) (.int .i64)))))]), (.tmp 2 false [(.dat (.int .u8))])], fork_Step⟩) :: cons20
theorem cons11_ok : ConL Try.prog cons11 := ⟨con20, cons20_ok⟩
theorem con11 : ConOk Try.prog 11 ⟨[(.tmp 0 false [(.dat (.list (.pair .str (.int .i64))))])], [(.tmp 0 true [(.dat (.list (.pair .str (.pair (.int .i64) (.pair (.int .u8) (.int .i64)))))), (.dat (.int .i64)), (.dat .bool), (.dat .bool), (.dat .bool)]), (.tmp 1 false [(.dat (.list (.pair (.int .u8) (.pair (.int .i64) (.int .i64)))))]), (.tmp 2 false [(.dat (.int .u8))])], fork_New⟩ :=
  tree_ok (plan := planOf plan11) (eg := egNo) KK tabL_ok (conOf_ok cons11_ok) Try.func11 (by kernel_rfl) (by kernel_rfl) 10000 (fun a r h => Eq.trans (show _ = fork_New a from by kernel_rfl) h)
def plan23 : List (Nat × PL) := [(134480385, (.carry [.tmp 5 false [(.dat (.int .i64))]])), (18049651601311750, (.carry [.tmp 6 false [(.dat (.int .i64))], .tmp 5 false [(.dat (.int .i64))]]))]
noncomputable def dialtonelaw23_all : ((List (Int × (Int × Int))) × Int) → Option Int := fun (a1, a2) =>
 joinO (loopO (fun (v3, v4) =>
 bif (decide (v3 < (((List.length a1) : Nat) : Int))) then
 bif (decide (((0 : Int) ≤ v3) ∧ (v3 < (((List.length a1) : Nat) : Int)))) then 
 bindO a1[(Int.toNat v3)]? fun x5 =>
 bif (decide (x5.1 = a2)) then
 some (Sum.inl ((Go.IntKind.wrap .i64 (v3 + (1 : Int))), (Go.IntKind.wrap .i64 (v4 + (1 : Int)))))
 else
 some (Sum.inl ((Go.IntKind.wrap .i64 (v3 + (1 : Int))), v4))
 else none
 else
 outO (some (Sum.inl v4))) ((0 : Int), (0 : Int))) fun v9 =>
 some v9
noncomputable def cons23 : List (Nat × CE) := (11, ⟨[(.tmp 0 false [(.dat (.list (.pair .str (.int .i64))))])], [(.tmp 0 true [(.dat (.list (.pair .str (.pair (.int .i64) (.pair (.int .u8) (.int .i64)))))), (.dat (.int .i64)), (.dat .bool), (.dat .bool), (.dat .bool)]), (.tmp 1 false [(.dat (.list (.pair (.int .u8) (.pair (.int .i64) (.int .i64)))))]), (.tmp 2 false [(.dat (.int .u8))])], fork_New⟩) :: cons11
theorem cons23_ok : ConL Try.prog cons23 := ⟨con11, cons11_ok⟩
theorem con23 : ConOk Try.prog 23 ⟨[(.tmp 0 false [(.dat (.list (.pair (.int .u8) (.pair (.int .i64) (.int .i64)))))]), (.tmp 1 false [(.dat (.int .u8))])], [(.tmp 0 false [(.dat (.int .i64))])], dialtonelaw23_all⟩ :=
  tree_ok (plan := planOf plan23) (eg := egNo) KK tabL_ok (conOf_ok cons23_ok) Try.func23 (by kernel_rfl) (by kernel_rfl) 10000 (fun a r h => Eq.trans (show _ = dialtonelaw23_all a from by kernel_rfl) h)
def plan25 : List (Nat × PL) := [(134480385, (.carry [.tmp 7 false [(.dat (.int .i64))]])), (18049651601311750, (.carry [.tmp 8 false [(.dat (.int .i64))], .tmp 7 false [(.dat (.int .i64))]]))]
noncomputable def dialtonelaw23_count : ((List (Int × (Int × Int))) × (Int × Int)) → Option Int := fun (a1, (a2, a3)) =>
 joinO (loopO (fun (v4, v5) =>
 bif (decide (v4 < (((List.length a1) : Nat) : Int))) then
 bif (decide (((0 : Int) ≤ v4) ∧ (v4 < (((List.length a1) : Nat) : Int)))) then 
 bindO a1[(Int.toNat v4)]? fun x6 =>
 bif (decide (x6.1 = a2)) then
 bif (decide (((0 : Int) ≤ v4) ∧ (v4 < (((List.length a1) : Nat) : Int)))) then 
 bindO a1[(Int.toNat v4)]? fun x7 =>
 bif (decide (x7.2.1 = a3)) then
 some (Sum.inl ((Go.IntKind.wrap .i64 (v4 + (1 : Int))), (Go.IntKind.wrap .i64 (v5 + (1 : Int)))))
 else
 some (Sum.inl ((Go.IntKind.wrap .i64 (v4 + (1 : Int))), v5))
 else none
 else
 some (Sum.inl ((Go.IntKind.wrap .i64 (v4 + (1 : Int))), v5))
 else none
 else
 outO (some (Sum.inl v5))) ((0 : Int), (0 : Int))) fun v12 =>
 some v12
noncomputable def cons25 : List (Nat × CE) := (23, ⟨[(.tmp 0 false [(.dat (.list (.pair (.int .u8) (.pair (.int .i64) (.int .i64)))))]), (.tmp 1 false [(.dat (.int .u8))])], [(.tmp 0 false [(.dat (.int .i64))])], dialtonelaw23_all⟩) :: cons23
theorem cons25_ok : ConL Try.prog cons25 := ⟨con23, cons23_ok⟩
theorem con25 : ConOk Try.prog 25 ⟨[(.tmp 0 false [(.dat (.list (.pair (.int .u8) (.pair (.int .i64) (.int .i64)))))]), (.tmp 1 false [(.dat (.int .u8))]), (.tmp 2 false [(.dat (.int .i64))])], [(.tmp 0 false [(.dat (.int .i64))])], dialtonelaw23_count⟩ :=
  tree_ok (plan := planOf plan25) (eg := egNo) KK tabL_ok (conOf_ok cons25_ok) Try.func25 (by kernel_rfl) (by kernel_rfl) 10000 (fun a r h => Eq.trans (show _ = dialtonelaw23_count a from by kernel_rfl) h)
end Go.Proofs.Ytheicchelhjcjaa
