import Derived.Test.YtohhpcggahlpjaaFp
import Derived.Test.YtohhpcggahlpjaaXBp
import Derived.Test.YtohhpcggahlpjaaZ1p
set_option linter.unusedVariables false
set_option maxRecDepth 1000000
set_option maxHeartbeats 0
namespace Go.Proofs.Ytohhpcggahlpjaa
open Go.RowKit
def plan4 : List (Nat × PL) := [(134479889, .unroll), (18049585163534352, .unroll), (2422574311992089175654913, (.carry [.mix 9 [(.dat (.int .u8)), (.dat (.int .i64)), (.dat (.int .i64)), (.dat (.int .i64)), (.dat (.int .i64)), (.dat (.int .i64)), (.dat (.int .i64)), (.dat (.int .i64)), (.dat (.int .i64)), (.dat (.int .i64)), (.dat (.int .i64)), (.dat (.int .i64)), (.dat (.int .i64)), (.dat (.int .i64)), (.dat (.int .i64)), (.dat (.int .i64)), (.dat (.int .i64)), (.dat (.int .i64)), .nil]])), (18049585163534849, (.carry [.mix 9 [(.dat (.int .u8)), (.dat (.int .i64)), (.dat (.int .i64)), (.dat (.int .i64)), (.dat (.int .i64)), (.dat (.int .i64)), (.dat (.int .i64)), (.dat (.int .i64)), (.dat (.int .i64)), (.dat (.int .i64)), (.dat (.int .i64)), (.dat (.int .i64)), (.dat (.int .i64)), (.dat (.int .i64)), (.dat (.int .i64)), (.dat (.int .i64)), (.dat (.int .i64)), (.dat (.int .i64)), (.own 10000008 42 (.pair (.int .i64) (.pair (.int .u8) (.pair (.int .i64) (.pair (.int .u8) (.int .i64))))))], .dead 10000002])), (325152420066741363129795200944134, (.carry [.tmp 2 false [(.dat (.int .i64))], .mix 9 [(.dat (.int .u8)), (.dat (.int .i64)), (.dat (.int .i64)), (.dat (.int .i64)), (.dat (.int .i64)), (.dat (.int .i64)), (.dat (.int .i64)), (.dat (.int .i64)), (.dat (.int .i64)), (.dat (.int .i64)), (.dat (.int .i64)), (.dat (.int .i64)), (.dat (.int .i64)), (.dat (.int .i64)), (.dat (.int .i64)), (.dat (.int .i64)), (.dat (.int .i64)), (.dat (.int .i64)), .nil]])), (325152420066741363129795335159827, (.carry [.mix 9 [(.dat (.int .u8)), (.dat (.int .i64)), (.dat (.int .i64)), (.dat (.int .i64)), (.dat (.int .i64)), (.dat (.int .i64)), (.dat (.int .i64)), (.dat (.int .i64)), (.dat (.int .i64)), (.dat (.int .i64)), (.dat (.int .i64)), (.dat (.int .i64)), (.dat (.int .i64)), (.dat (.int .i64)), (.dat (.int .i64)), (.dat (.int .i64)), (.dat (.int .i64)), (.dat (.int .i64)), (.own 10000002 42 (.pair (.int .i64) (.pair (.int .u8) (.pair (.int .i64) (.pair (.int .u8) (.int .i64))))))]])), (2422574311992155747649542, (.carry [.tmp 4 false [(.dat (.int .i64))], .mix 9 [(.dat (.int .u8)), (.dat (.int .i64)), (.dat (.int .i64)), (.dat (.int .i64)), (.dat (.int .i64)), (.dat (.int .i64)), (.dat (.int .i64)), (.dat (.int .i64)), (.dat (.int .i64)), (.dat (.int .i64)), (.dat (.int .i64)), (.dat (.int .i64)), (.dat (.int .i64)), (.dat (.int .i64)), (.dat (.int .i64)), (.dat (.int .i64)), (.dat (.int .i64)), (.dat (.int .i64)), (.own 10000006 42 (.pair (.int .i64) (.pair (.int .u8) (.pair (.int .i64) (.pair (.int .u8) (.int .i64))))))], .dead 10000002])), (11440283733212432727514572125674011905415710726, (.carry [.tmp 6 false [(.dat (.int .i64))], .mix 9 [(.dat (.int .u8)), (.dat (.int .i64)), (.dat (.int .i64)), (.dat (.int .i64)), (.dat (.int .i64)), (.dat (.int .i64)), (.dat (.int .i64)), (.dat (.int .i64)), (.dat (.int .i64)), (.dat (.int .i64)), (.dat (.int .i64)), (.dat (.int .i64)), (.dat (.int .i64)), (.dat (.int .i64)), (.dat (.int .i64)), (.dat (.int .i64)), (.dat (.int .i64)), (.dat (.int .i64)), (.own 10000001 42 (.pair (.int .i64) (.pair (.int .u8) (.pair (.int .i64) (.pair (.int .u8) (.int .i64))))))]])), (85236756005978190190126790801548640284, (.carry [.mix 9 [(.dat (.int .u8)), (.dat (.int .i64)), (.dat (.int .i64)), (.dat (.int .i64)), (.dat (.int .i64)), (.dat (.int .i64)), (.dat (.int .i64)), (.dat (.int .i64)), (.dat (.int .i64)), (.dat (.int .i64)), (.dat (.int .i64)), (.dat (.int .i64)), (.dat (.int .i64)), (.dat (.int .i64)), (.dat (.int .i64)), (.dat (.int .i64)), (.dat (.int .i64)), (.dat (.int .i64)), (.own 10000003 42 (.pair (.int .i64) (.pair (.int .u8) (.pair (.int .i64) (.pair (.int .u8) (.int .i64))))))], .dead 10000006])), (43641219075060833377344916890392903825409, (.carry [.mix 9 [(.dat (.int .u8)), (.dat (.int .i64)), (.dat (.int .i64)), (.dat (.int .i64)), (.dat (.int .i64)), (.dat (.int .i64)), (.dat (.int .i64)), (.dat (.int .i64)), (.dat (.int .i64)), (.dat (.int .i64)), (.dat (.int .i64)), (.dat (.int .i64)), (.dat (.int .i64)), (.dat (.int .i64)), (.dat (.int .i64)), (.dat (.int .i64)), (.dat (.int .i64)), (.dat (.int .i64)), (.own 10000019 42 (.pair (.int .i64) (.pair (.int .u8) (.pair (.int .i64) (.pair (.int .u8) (.int .i64))))))], .dead 10000006])), (11440283733212747104870705893315157449127494163, (.carry [.mix 9 [(.dat (.int .u8)), (.dat (.int .i64)), (.dat (.int .i64)), (.dat (.int .i64)), (.dat (.int .i64)), (.dat (.int .i64)), (.dat (.int .i64)), (.dat (.int .i64)), (.dat (.int .i64)), (.dat (.int .i64)), (.dat (.int .i64)), (.dat (.int .i64)), (.dat (.int .i64)), (.dat (.int .i64)), (.dat (.int .i64)), (.dat (.int .i64)), (.dat (.int .i64)), (.dat (.int .i64)), (.own 10000005 42 (.pair (.int .i64) (.pair (.int .u8) (.pair (.int .i64) (.pair (.int .u8) (.int .i64))))))], .dead 10000003])), (68853956630, (.carry [.mix 9 [(.dat (.int .u8)), (.dat (.int .i64)), (.dat (.int .i64)), (.dat (.int .i64)), (.dat (.int .i64)), (.dat (.int .i64)), (.dat (.int .i64)), (.dat (.int .i64)), (.dat (.int .i64)), (.dat (.int .i64)), (.dat (.int .i64)), (.dat (.int .i64)), (.dat (.int .i64)), (.dat (.int .i64)), (.dat (.int .i64)), (.dat (.int .i64)), (.dat (.int .i64)), (.dat (.int .i64)), (.own 10000007 42 (.pair (.int .i64) (.pair (.int .u8) (.pair (.int .i64) (.pair (.int .u8) (.int .i64))))))], .dead 10000008])), (402519199671169333868448678872867358843644896579783051446278, (.carry [.tmp 6 false [(.dat (.int .i64))], .mix 9 [(.dat (.int .u8)), (.dat (.int .i64)), (.dat (.int .i64)), (.dat (.int .i64)), (.dat (.int .i64)), (.dat (.int .i64)), (.dat (.int .i64)), (.dat (.int .i64)), (.dat (.int .i64)), (.dat (.int .i64)), (.dat (.int .i64)), (.dat (.int .i64)), (.dat (.int .i64)), (.dat (.int .i64)), (.dat (.int .i64)), (.dat (.int .i64)), (.dat (.int .i64)), (.dat (.int .i64)), (.own 10000004 42 (.pair (.int .i64) (.pair (.int .u8) (.pair (.int .i64) (.pair (.int .u8) (.int .i64))))))], .dead 10000003])), (1535488890347173057054323878756970811560760625652564481, (.carry [.tmp 6 false [(.dat (.int .i64))], .tmp 5 false [(.dat (.int .i64))], .mix 9 [(.dat (.int .u8)), (.dat (.int .i64)), (.dat (.int .i64)), (.dat (.int .i64)), (.dat (.int .i64)), (.dat (.int .i64)), (.dat (.int .i64)), (.dat (.int .i64)), (.dat (.int .i64)), (.dat (.int .i64)), (.dat (.int .i64)), (.dat (.int .i64)), (.dat (.int .i64)), (.dat (.int .i64)), (.dat (.int .i64)), (.dat (.int .i64)), (.dat (.int .i64)), (.dat (.int .i64)), (.own 10000015 42 (.pair (.int .i64) (.pair (.int .u8) (.pair (.int .i64) (.pair (.int .u8) (.int .i64))))))], .dead 10000018, .dead 10000006])), (4731607870816838223878, (.carry [.tmp 4 false [(.dat (.int .i64))], .mix 9 [(.dat (.int .u8)), (.dat (.int .i64)), (.dat (.int .i64)), (.dat (.int .i64)), (.dat (.int .i64)), (.dat (.int .i64)), (.dat (.int .i64)), (.dat (.int .i64)), (.dat (.int .i64)), (.dat (.int .i64)), (.dat (.int .i64)), (.dat (.int .i64)), (.dat (.int .i64)), (.dat (.int .i64)), (.dat (.int .i64)), (.dat (.int .i64)), (.dat (.int .i64)), (.dat (.int .i64)), (.own 10000012 42 (.pair (.int .i64) (.pair (.int .u8) (.pair (.int .i64) (.pair (.int .u8) (.int .i64))))))], .dead 10000008])), (1240362613687409239360274945, (.carry [.tmp 6 false [(.dat (.int .i64))], .tmp 5 false [(.dat (.int .i64))], .mix 9 [(.dat (.int .u8)), (.dat (.int .i64)), (.dat (.int .i64)), (.dat (.int .i64)), (.dat (.int .i64)), (.dat (.int .i64)), (.dat (.int .i64)), (.dat (.int .i64)), (.dat (.int .i64)), (.dat (.int .i64)), (.dat (.int .i64)), (.dat (.int .i64)), (.dat (.int .i64)), (.dat (.int .i64)), (.dat (.int .i64)), (.dat (.int .i64)), (.dat (.int .i64)), (.dat (.int .i64)), (.own 10000009 42 (.pair (.int .i64) (.pair (.int .u8) (.pair (.int .i64) (.pair (.int .u8) (.int .i64))))))], .dead 10000012, .dead 10000008])), (166478651905265770313144276440056321, (.carry [.tmp 6 false [(.dat (.int .i64))], .tmp 5 false [(.dat (.int .i64))]])), (22344386419227642927600073319988287462705158, (.carry [.tmp 6 false [(.dat (.int .i64))], .tmp 5 false [(.dat (.int .i64))]])), (1535494542716308351251328170824829413309113715633947155, (.carry [.mix 9 [(.dat (.int .u8)), (.dat (.int .i64)), (.dat (.int .i64)), (.dat (.int .i64)), (.dat (.int .i64)), (.dat (.int .i64)), (.dat (.int .i64)), (.dat (.int .i64)), (.dat (.int .i64)), (.dat (.int .i64)), (.dat (.int .i64)), (.dat (.int .i64)), (.dat (.int .i64)), (.dat (.int .i64)), (.dat (.int .i64)), (.dat (.int .i64)), (.dat (.int .i64)), (.dat (.int .i64)), (.own 10000011 42 (.pair (.int .i64) (.pair (.int .u8) (.pair (.int .i64) (.pair (.int .u8) (.int .i64))))))], .dead 10000012])), (54025411331301534715708499314738328985120854404242202117125307631622, (.carry [.tmp 6 false [(.dat (.int .i64))], .mix 9 [(.dat (.int .u8)), (.dat (.int .i64)), (.dat (.int .i64)), (.dat (.int .i64)), (.dat (.int .i64)), (.dat (.int .i64)), (.dat (.int .i64)), (.dat (.int .i64)), (.dat (.int .i64)), (.dat (.int .i64)), (.dat (.int .i64)), (.dat (.int .i64)), (.dat (.int .i64)), (.dat (.int .i64)), (.dat (.int .i64)), (.dat (.int .i64)), (.dat (.int .i64)), (.dat (.int .i64)), (.own 10000010 42 (.pair (.int .i64) (.pair (.int .u8) (.pair (.int .i64) (.pair (.int .u8) (.int .i64))))))], .dead 10000012])), (35253225794561, (.carry [.mix 9 [(.dat (.int .u8)), (.dat (.int .i64)), (.dat (.int .i64)), (.dat (.int .i64)), (.dat (.int .i64)), (.dat (.int .i64)), (.dat (.int .i64)), (.dat (.int .i64)), (.dat (.int .i64)), (.dat (.int .i64)), (.dat (.int .i64)), (.dat (.int .i64)), (.dat (.int .i64)), (.dat (.int .i64)), (.dat (.int .i64)), (.dat (.int .i64)), (.dat (.int .i64)), (.dat (.int .i64)), (.own 10000014 42 (.pair (.int .i64) (.pair (.int .u8) (.pair (.int .i64) (.pair (.int .u8) (.int .i64))))))], .dead 10000008])), (18049651735265301, (.carry [.tmp 0 false [(.dat (.int .i64))]])), (18049651735265307, (.carry [.tmp 0 false [(.dat (.int .i64))]])), (325153619316432144431059411666950, (.carry [.tmp 12 false [(.dat (.int .i64))], .tmp 11 false [(.dat (.int .i64))]])), (325153619316432252517450468558854, (.carry [.tmp 12 false [(.dat (.int .i64))], .tmp 11 false [(.dat (.int .i64))]])), (18049651735265314, (.carry [.tmp 0 false [(.dat (.int .i64))]])), (325153619316432378618240034932742, (.carry [.tmp 12 false [(.dat (.int .i64))], .tmp 11 false [(.dat (.int .i64))]])), (2422583247098566177718785, (.carry [.tmp 11 false [(.dat (.int .i64))]])), (2422583247098566983025153, (.carry [.tmp 11 false [(.dat (.int .i64))]])), (2422583247098567922549249, (.carry [.tmp 11 false [(.dat (.int .i64))]])), (2422583247133816450713606, (.carry [.tmp 5 false [(.dat (.int .i64))], .tmp 4 false [(.dat .bool)]])), (85237070383327046791018361983943574017, (.carry [])), (18049651735527937, (.carry [.drop 4])), (4731607904558235516945, (.carry [.tmp 0 false [(.dat (.int .i64))]])), (85237070383327051504395484075496048646, (.carry [.tmp 12 false [(.dat (.int .i64))], .tmp 11 false [(.dat (.int .i64))]])), (4731607904558235516964, (.carry [.tmp 0 false [(.dat .bool)]])), (635065662736647214773263663617, (.carry [.tmp 11 false [(.dat (.int .i64))]])), (635065662736647214775813799957, (.carry [.tmp 0 false [(.dat (.int .i64))]])), (11440325928226245933904883058373546155763304454, (.carry [.tmp 12 false [(.dat (.int .i64))], .tmp 11 false [(.dat (.int .i64))]])), (85237070383327051504737757581275300353, (.carry [.tmp 11 false [(.dat (.int .i64))]])), (5857425271404926517693801417377360578768770697222, (.carry [.tmp 4 false [(.dat (.int .i64))], .mix 9 [(.dat (.int .u8)), (.dat (.int .i64)), (.dat (.int .i64)), (.dat (.int .i64)), (.dat (.int .i64)), (.dat (.int .i64)), (.dat (.int .i64)), (.dat (.int .i64)), (.dat (.int .i64)), (.dat (.int .i64)), (.dat (.int .i64)), (.dat (.int .i64)), (.dat (.int .i64)), (.dat (.int .i64)), (.dat (.int .i64)), (.dat (.int .i64)), (.dat (.int .i64)), (.dat (.int .i64)), (.own 10000018 42 (.pair (.int .i64) (.pair (.int .u8) (.pair (.int .i64) (.pair (.int .u8) (.int .i64))))))], .dead 10000006])), (206089830231638698940645723582908086490001425126945721880150529, (.carry [.tmp 6 false [(.dat (.int .i64))], .tmp 5 false [(.dat (.int .i64))]])), (27660908777596259888689475872213943001515485997300766370073692166424582, (.carry [.tmp 6 false [(.dat (.int .i64))], .tmp 5 false [(.dat (.int .i64))]])), (1900843177238644379421406386728639364907473452735243773363250264659505645873267219, (.carry [.mix 9 [(.dat (.int .u8)), (.dat (.int .i64)), (.dat (.int .i64)), (.dat (.int .i64)), (.dat (.int .i64)), (.dat (.int .i64)), (.dat (.int .i64)), (.dat (.int .i64)), (.dat (.int .i64)), (.dat (.int .i64)), (.dat (.int .i64)), (.dat (.int .i64)), (.dat (.int .i64)), (.dat (.int .i64)), (.dat (.int .i64)), (.dat (.int .i64)), (.dat (.int .i64)), (.dat (.int .i64)), (.own 10000017 42 (.pair (.int .i64) (.pair (.int .u8) (.pair (.int .i64) (.pair (.int .u8) (.int .i64))))))], .dead 10000018])), (66879973630482097741735164586598682614626783604621916186073463316282747490738504222984395556870, (.carry [.tmp 6 false [(.dat (.int .i64))], .mix 9 [(.dat (.int .u8)), (.dat (.int .i64)), (.dat (.int .i64)), (.dat (.int .i64)), (.dat (.int .i64)), (.dat (.int .i64)), (.dat (.int .i64)), (.dat (.int .i64)), (.dat (.int .i64)), (.dat (.int .i64)), (.dat (.int .i64)), (.dat (.int .i64)), (.dat (.int .i64)), (.dat (.int .i64)), (.dat (.int .i64)), (.dat (.int .i64)), (.dat (.int .i64)), (.dat (.int .i64)), (.own 10000016 42 (.pair (.int .i64) (.pair (.int .u8) (.pair (.int .i64) (.pair (.int .u8) (.int .i64))))))], .dead 10000018]))]
noncomputable def dialtonelaw13_ClientOne : (List (Int × (Int × Int))) → Option Bool := fun a1 =>
 joinO (loopO (fun (v2, (v3, (v4, (v5, (v6, (v7, (v8, (v9, (v10, (v11, (v12, (v13, (v14, (v15, (v16, (v17, (v18, (v19, v20)))))))))))))))))) =>
 bif (decide (v2 < (14 : Int))) then
 bif (decide (((0 : Int) ≤ v2) ∧ (v2 < (14 : Int)))) then 
 bif (decide ((((Int.toNat v2) * 1) + 1) ≤ 15)) then 
 bindO (some (putL (v6 :: (v7 :: (v8 :: (v9 :: (v10 :: (v11 :: (v12 :: (v13 :: (v14 :: (v15 :: (v16 :: (v17 :: (v18 :: (v19 :: (v20 :: ([] : List Int)))))))))))))))) ((Int.toNat v2) * 1) ((-1 : Int) :: ([] : List Int)))) fun x21 =>
 some (Sum.inl ((Go.IntKind.wrap .i64 (v2 + (1 : Int))), (v3, (v4, (v5, ((List.getD x21 0 (0 : Int)), ((List.getD x21 1 (0 : Int)), ((List.getD x21 2 (0 : Int)), ((List.getD x21 3 (0 : Int)), ((List.getD x21 4 (0 : Int)), ((List.getD x21 5 (0 : Int)), ((List.getD x21 6 (0 : Int)), ((List.getD x21 7 (0 : Int)), ((List.getD x21 8 (0 : Int)), ((List.getD x21 9 (0 : Int)), ((List.getD x21 10 (0 : Int)), ((List.getD x21 11 (0 : Int)), ((List.getD x21 12 (0 : Int)), ((List.getD x21 13 (0 : Int)), (List.getD x21 14 (0 : Int)))))))))))))))))))))
 else none
 else none
 else
 outO (some (Sum.inl (v3, (v4, (v5, (v6, (v7, (v8, (v9, (v10, (v11, (v12, (v13, (v14, (v15, (v16, (v17, (v18, (v19, v20)))))))))))))))))))) ((0 : Int), ((0 : Int), ((0 : Int), ((0 : Int), ((0 : Int), ((0 : Int), ((0 : Int), ((0 : Int), ((0 : Int), ((0 : Int), ((0 : Int), ((0 : Int), ((0 : Int), ((0 : Int), ((0 : Int), ((0 : Int), ((0 : Int), ((0 : Int), (0 : Int)))))))))))))))))))) fun (v23, (v24, (v25, (v26, (v27, (v28, (v29, (v30, (v31, (v32, (v33, (v34, (v35, (v36, (v37, (v38, (v39, v40))))))))))))))))) =>
 bindO (client_Start ()) fun ((x42, (x43, x44)), x45) =>
 joinO (loopO (fun (v46, (v47, (v48, (v49, (v50, (v51, (v52, (v53, (v54, (v55, (v56, (v57, (v58, (v59, (v60, (v61, (v62, (v63, (v64, v65))))))))))))))))))) =>
 bif (decide (v46 < (((List.length x45) : Nat) : Int))) then
 bif (decide (((0 : Int) ≤ v46) ∧ (v46 < (((List.length x45) : Nat) : Int)))) then 
 bindO x45[(Int.toNat v46)]? fun x66 =>
 bif (decide ((List.length v65) ≤ (List.length v65))) then 
 bif (decide (((List.length ((List.take (List.length v65) v65) ++ ((v64, (x66.1, (x66.2.1, (x66.2.2.1, x66.2.2.2)))) :: ([] : List (Int × (Int × (Int × (Int × Int)))))))) * 40) ≤ 140737488355328)) then 
 bindO (some ((List.take (List.length v65) v65) ++ ((v64, (x66.1, (x66.2.1, (x66.2.2.1, x66.2.2.2)))) :: ([] : List (Int × (Int × (Int × (Int × Int)))))))) fun x67 =>
 bif (decide (((0 : Int) ≤ v46) ∧ (v46 < (((List.length x45) : Nat) : Int)))) then 
 bindO x45[(Int.toNat v46)]? fun x68 =>
 bif (decide (x68.1 = (4 : Int))) then
 bif (decide (((0 : Int) ≤ v46) ∧ (v46 < (((List.length x45) : Nat) : Int)))) then 
 bindO x45[(Int.toNat v46)]? fun x69 =>
 bif (decide (x69.2.2.1 < (14 : Int))) then
 bif (decide (((0 : Int) ≤ v46) ∧ (v46 < (((List.length x45) : Nat) : Int)))) then 
 bindO x45[(Int.toNat v46)]? fun x70 =>
 bif (decide (((0 : Int) ≤ v46) ∧ (v46 < (((List.length x45) : Nat) : Int)))) then 
 bindO x45[(Int.toNat v46)]? fun x71 =>
 bif (decide (((0 : Int) ≤ x70.2.2.1) ∧ (x70.2.2.1 < (14 : Int)))) then 
 bif (decide ((((Int.toNat x70.2.2.1) * 1) + 1) ≤ 15)) then 
 bindO (some (putL (v50 :: (v51 :: (v52 :: (v53 :: (v54 :: (v55 :: (v56 :: (v57 :: (v58 :: (v59 :: (v60 :: (v61 :: (v62 :: (v63 :: (v64 :: ([] : List Int)))))))))))))))) ((Int.toNat x70.2.2.1) * 1) ((Go.IntKind.wrap .i64 (v64 + (maxA (1 : Int) x71.2.2.2))) :: ([] : List Int)))) fun x73 =>
 bif (decide ((List.length x67) ≤ (List.length x67))) then 
 some (Sum.inl ((Go.IntKind.wrap .i64 (v46 + (1 : Int))), (v47, (v48, (v49, ((List.getD x73 0 (0 : Int)), ((List.getD x73 1 (0 : Int)), ((List.getD x73 2 (0 : Int)), ((List.getD x73 3 (0 : Int)), ((List.getD x73 4 (0 : Int)), ((List.getD x73 5 (0 : Int)), ((List.getD x73 6 (0 : Int)), ((List.getD x73 7 (0 : Int)), ((List.getD x73 8 (0 : Int)), ((List.getD x73 9 (0 : Int)), ((List.getD x73 10 (0 : Int)), ((List.getD x73 11 (0 : Int)), ((List.getD x73 12 (0 : Int)), ((List.getD x73 13 (0 : Int)), ((List.getD x73 14 (0 : Int)), (List.take (List.length x67) x67)))))))))))))))))))))
 else none
 else none
 else none
 else none
 else none
 else
 bif (decide ((List.length x67) ≤ (List.length x67))) then 
 some (Sum.inl ((Go.IntKind.wrap .i64 (v46 + (1 : Int))), (v47, (v48, (v49, (v50, (v51, (v52, (v53, (v54, (v55, (v56, (v57, (v58, (v59, (v60, (v61, (v62, (v63, (v64, (List.take (List.length x67) x67)))))))))))))))))))))
 else none
 else none
 else
 bif (decide ((List.length x67) ≤ (List.length x67))) then 
 some (Sum.inl ((Go.IntKind.wrap .i64 (v46 + (1 : Int))), (v47, (v48, (v49, (v50, (v51, (v52, (v53, (v54, (v55, (v56, (v57, (v58, (v59, (v60, (v61, (v62, (v63, (v64, (List.take (List.length x67) x67)))))))))))))))))))))
 else none
 else none
 else none
 else none
 else none
 else
 outO (bif (decide ((List.length v65) ≤ (List.length v65))) then 
 some (Sum.inl (v47, (v48, (v49, (v50, (v51, (v52, (v53, (v54, (v55, (v56, (v57, (v58, (v59, (v60, (v61, (v62, (v63, (v64, (List.take (List.length v65) v65))))))))))))))))))))
 else none)) ((0 : Int), (x42, (x43, (x44, (v26, (v27, (v28, (v29, (v30, (v31, (v32, (v33, (v34, (v35, (v36, (v37, (v38, (v39, (v40, ([] : List (Int × (Int × (Int × (Int × Int))))))))))))))))))))))))) fun (v77, (v78, (v79, (v80, (v81, (v82, (v83, (v84, (v85, (v86, (v87, (v88, (v89, (v90, (v91, (v92, (v93, (v94, v95)))))))))))))))))) =>
 joinO (bif (decide ((List.length v95) ≤ (List.length v95))) then 
 loopO (fun (v96, (v97, (v98, (v99, (v100, (v101, (v102, (v103, (v104, (v105, (v106, (v107, (v108, (v109, (v110, (v111, (v112, (v113, (v114, v115))))))))))))))))))) =>
 bif (decide (v96 < (((List.length a1) : Nat) : Int))) then
 bif (decide (v96 < (40 : Int))) then
 bif (decide (((0 : Int) ≤ v96) ∧ (v96 < (((List.length a1) : Nat) : Int)))) then 
 bindO a1[(Int.toNat v96)]? fun x116 =>
 bindO (some (Go.IntKind.wrap .i64 (v114 + (Go.IntKind.wrap .i64 x116.1)))) fun x118 =>
 joinO (joinO (bif (decide ((List.length v115) ≤ (List.length v115))) then 
 loopO (fun (v119, (v120, (v121, (v122, (v123, (v124, (v125, (v126, (v127, (v128, (v129, (v130, (v131, (v132, (v133, (v134, (v135, (v136, (v137, v138))))))))))))))))))) =>
 bif (decide (v119 < (200 : Int))) then
 joinO (joinO (loopO (fun (v139, v140) =>
 bif (decide (v139 < (14 : Int))) then
 bif (decide (((0 : Int) ≤ v139) ∧ (v139 < (14 : Int)))) then 
 bindO (v123 :: (v124 :: (v125 :: (v126 :: (v127 :: (v128 :: (v129 :: (v130 :: (v131 :: (v132 :: (v133 :: (v134 :: (v135 :: (v136 :: (v137 :: ([] : List Int))))))))))))))))[(Int.toNat v139)]? fun x141 =>
 bif (decide (x141 ≥ (0 : Int))) then
 bif (decide (((0 : Int) ≤ v139) ∧ (v139 < (14 : Int)))) then 
 bindO (v123 :: (v124 :: (v125 :: (v126 :: (v127 :: (v128 :: (v129 :: (v130 :: (v131 :: (v132 :: (v133 :: (v134 :: (v135 :: (v136 :: (v137 :: ([] : List Int))))))))))))))))[(Int.toNat v139)]? fun x142 =>
 bif (decide (x142 ≤ x118)) then
 bif (decide (v140 < (0 : Int))) then
 some (Sum.inl ((Go.IntKind.wrap .i64 (v139 + (1 : Int))), v139))
 else
 bif (decide (((0 : Int) ≤ v139) ∧ (v139 < (14 : Int)))) then 
 bindO (v123 :: (v124 :: (v125 :: (v126 :: (v127 :: (v128 :: (v129 :: (v130 :: (v131 :: (v132 :: (v133 :: (v134 :: (v135 :: (v136 :: (v137 :: ([] : List Int))))))))))))))))[(Int.toNat v139)]? fun x144 =>
 bif (decide (((0 : Int) ≤ v140) ∧ (v140 < (14 : Int)))) then 
 bindO (v123 :: (v124 :: (v125 :: (v126 :: (v127 :: (v128 :: (v129 :: (v130 :: (v131 :: (v132 :: (v133 :: (v134 :: (v135 :: (v136 :: (v137 :: ([] : List Int))))))))))))))))[(Int.toNat v140)]? fun x145 =>
 bif (decide (x144 < x145)) then
 some (Sum.inl ((Go.IntKind.wrap .i64 (v139 + (1 : Int))), v139))
 else
 some (Sum.inl ((Go.IntKind.wrap .i64 (v139 + (1 : Int))), v140))
 else none
 else none
 else
 some (Sum.inl ((Go.IntKind.wrap .i64 (v139 + (1 : Int))), v140))
 else none
 else
 some (Sum.inl ((Go.IntKind.wrap .i64 (v139 + (1 : Int))), v140))
 else none
 else
 outO (some (Sum.inl (v139, v140)))) ((0 : Int), (-1 : Int))) fun (v150, v151) =>
 bif (decide (v151 < (0 : Int))) then
 outO (outO (bif (decide ((List.length v138) ≤ (List.length v138))) then 
 some (Sum.inl (v120, (v121, (v122, (v123, (v124, (v125, (v126, (v127, (v128, (v129, (v130, (v131, (v132, (v133, (v134, (v135, (v136, (v137, (List.take (List.length v138) v138))))))))))))))))))))
 else none))
 else
 bif (decide (((0 : Int) ≤ v151) ∧ (v151 < (14 : Int)))) then 
 bindO (v123 :: (v124 :: (v125 :: (v126 :: (v127 :: (v128 :: (v129 :: (v130 :: (v131 :: (v132 :: (v133 :: (v134 :: (v135 :: (v136 :: (v137 :: ([] : List Int))))))))))))))))[(Int.toNat v151)]? fun x152 =>
 bif (decide (((0 : Int) ≤ v151) ∧ (v151 < (14 : Int)))) then 
 bif (decide ((((Int.toNat v151) * 1) + 1) ≤ 15)) then 
 bindO (some (putL (v123 :: (v124 :: (v125 :: (v126 :: (v127 :: (v128 :: (v129 :: (v130 :: (v131 :: (v132 :: (v133 :: (v134 :: (v135 :: (v136 :: (x152 :: ([] : List Int)))))))))))))))) ((Int.toNat v151) * 1) ((-1 : Int) :: ([] : List Int)))) fun x153 =>
 bindO (client_Step ((v120, (v121, v122)), ((5 : Int), ((0 : Int), (Go.IntKind.wrap .u8 v151))))) fun ((x156, (x157, x158)), x159) =>
 joinO (bif (decide ((List.length v138) ≤ (List.length v138))) then 
 loopO (fun (v160, (v161, (v162, (v163, (v164, (v165, (v166, (v167, (v168, (v169, (v170, (v171, (v172, (v173, (v174, (v175, (v176, (v177, (v178, v179))))))))))))))))))) =>
 bif (decide (v160 < (((List.length x159) : Nat) : Int))) then
 bif (decide (((0 : Int) ≤ v160) ∧ (v160 < (((List.length x159) : Nat) : Int)))) then 
 bindO x159[(Int.toNat v160)]? fun x180 =>
 bif (decide ((List.length v179) ≤ (List.length v179))) then 
 bif (decide (((List.length ((List.take (List.length v179) v179) ++ ((v178, (x180.1, (x180.2.1, (x180.2.2.1, x180.2.2.2)))) :: ([] : List (Int × (Int × (Int × (Int × Int)))))))) * 40) ≤ 140737488355328)) then 
 bindO (some ((List.take (List.length v179) v179) ++ ((v178, (x180.1, (x180.2.1, (x180.2.2.1, x180.2.2.2)))) :: ([] : List (Int × (Int × (Int × (Int × Int)))))))) fun x181 =>
 bif (decide (((0 : Int) ≤ v160) ∧ (v160 < (((List.length x159) : Nat) : Int)))) then 
 bindO x159[(Int.toNat v160)]? fun x182 =>
 bif (decide (x182.1 = (4 : Int))) then
 bif (decide (((0 : Int) ≤ v160) ∧ (v160 < (((List.length x159) : Nat) : Int)))) then 
 bindO x159[(Int.toNat v160)]? fun x183 =>
 bif (decide (x183.2.2.1 < (14 : Int))) then
 bif (decide (((0 : Int) ≤ v160) ∧ (v160 < (((List.length x159) : Nat) : Int)))) then 
 bindO x159[(Int.toNat v160)]? fun x184 =>
 bif (decide (((0 : Int) ≤ v160) ∧ (v160 < (((List.length x159) : Nat) : Int)))) then 
 bindO x159[(Int.toNat v160)]? fun x185 =>
 bif (decide (((0 : Int) ≤ x184.2.2.1) ∧ (x184.2.2.1 < (14 : Int)))) then 
 bif (decide ((((Int.toNat x184.2.2.1) * 1) + 1) ≤ 15)) then 
 bindO (some (putL (v164 :: (v165 :: (v166 :: (v167 :: (v168 :: (v169 :: (v170 :: (v171 :: (v172 :: (v173 :: (v174 :: (v175 :: (v176 :: (v177 :: (v178 :: ([] : List Int)))))))))))))))) ((Int.toNat x184.2.2.1) * 1) ((Go.IntKind.wrap .i64 (v178 + (maxA (1 : Int) x185.2.2.2))) :: ([] : List Int)))) fun x187 =>
 bif (decide ((List.length x181) ≤ (List.length x181))) then 
 some (Sum.inl ((Go.IntKind.wrap .i64 (v160 + (1 : Int))), (v161, (v162, (v163, ((List.getD x187 0 (0 : Int)), ((List.getD x187 1 (0 : Int)), ((List.getD x187 2 (0 : Int)), ((List.getD x187 3 (0 : Int)), ((List.getD x187 4 (0 : Int)), ((List.getD x187 5 (0 : Int)), ((List.getD x187 6 (0 : Int)), ((List.getD x187 7 (0 : Int)), ((List.getD x187 8 (0 : Int)), ((List.getD x187 9 (0 : Int)), ((List.getD x187 10 (0 : Int)), ((List.getD x187 11 (0 : Int)), ((List.getD x187 12 (0 : Int)), ((List.getD x187 13 (0 : Int)), ((List.getD x187 14 (0 : Int)), (List.take (List.length x181) x181)))))))))))))))))))))
 else none
 else none
 else none
 else none
 else none
 else
 bif (decide ((List.length x181) ≤ (List.length x181))) then 
 some (Sum.inl ((Go.IntKind.wrap .i64 (v160 + (1 : Int))), (v161, (v162, (v163, (v164, (v165, (v166, (v167, (v168, (v169, (v170, (v171, (v172, (v173, (v174, (v175, (v176, (v177, (v178, (List.take (List.length x181) x181)))))))))))))))))))))
 else none
 else none
 else
 bif (decide ((List.length x181) ≤ (List.length x181))) then 
 some (Sum.inl ((Go.IntKind.wrap .i64 (v160 + (1 : Int))), (v161, (v162, (v163, (v164, (v165, (v166, (v167, (v168, (v169, (v170, (v171, (v172, (v173, (v174, (v175, (v176, (v177, (v178, (List.take (List.length x181) x181)))))))))))))))))))))
 else none
 else none
 else none
 else none
 else none
 else
 outO (bif (decide ((List.length v179) ≤ (List.length v179))) then 
 some (Sum.inl (v161, (v162, (v163, (v164, (v165, (v166, (v167, (v168, (v169, (v170, (v171, (v172, (v173, (v174, (v175, (v176, (v177, (v178, (List.take (List.length v179) v179))))))))))))))))))))
 else none)) ((0 : Int), (x156, (x157, (x158, ((List.getD x153 0 (0 : Int)), ((List.getD x153 1 (0 : Int)), ((List.getD x153 2 (0 : Int)), ((List.getD x153 3 (0 : Int)), ((List.getD x153 4 (0 : Int)), ((List.getD x153 5 (0 : Int)), ((List.getD x153 6 (0 : Int)), ((List.getD x153 7 (0 : Int)), ((List.getD x153 8 (0 : Int)), ((List.getD x153 9 (0 : Int)), ((List.getD x153 10 (0 : Int)), ((List.getD x153 11 (0 : Int)), ((List.getD x153 12 (0 : Int)), ((List.getD x153 13 (0 : Int)), ((List.getD x153 14 (0 : Int)), (List.take (List.length v138) v138))))))))))))))))))))
 else none) fun (v191, (v192, (v193, (v194, (v195, (v196, (v197, (v198, (v199, (v200, (v201, (v202, (v203, (v204, (v205, (v206, (v207, (v208, v209)))))))))))))))))) =>
 bif (decide ((List.length v209) ≤ (List.length v209))) then 
 some (Sum.inl (v150, (v151, (v191, (v192, (v193, (v194, (v195, (v196, (v197, (v198, (v199, (v200, (v201, (v202, (v203, (v204, (v205, (v206, (v207, (v208, (List.take (List.length v209) v209))))))))))))))))))))))
 else none
 else none
 else none
 else none) fun (v210, (v211, (v212, (v213, (v214, (v215, (v216, (v217, (v218, (v219, (v220, (v221, (v222, (v223, (v224, (v225, (v226, (v227, (v228, (v229, v230)))))))))))))))))))) =>
 bif (decide ((List.length v230) ≤ (List.length v230))) then 
 some (Sum.inl ((Go.IntKind.wrap .i64 (v119 + (1 : Int))), (v212, (v213, (v214, (v215, (v216, (v217, (v218, (v219, (v220, (v221, (v222, (v223, (v224, (v225, (v226, (v227, (v228, (v229, (List.take (List.length v230) v230)))))))))))))))))))))
 else none
 else
 outO (bif (decide ((List.length v138) ≤ (List.length v138))) then 
 some (Sum.inl (v120, (v121, (v122, (v123, (v124, (v125, (v126, (v127, (v128, (v129, (v130, (v131, (v132, (v133, (v134, (v135, (v136, (v137, (List.take (List.length v138) v138))))))))))))))))))))
 else none)) ((0 : Int), (v97, (v98, (v99, (v100, (v101, (v102, (v103, (v104, (v105, (v106, (v107, (v108, (v109, (v110, (v111, (v112, (v113, (v114, (List.take (List.length v115) v115))))))))))))))))))))
 else none) fun (v232, (v233, (v234, (v235, (v236, (v237, (v238, (v239, (v240, (v241, (v242, (v243, (v244, (v245, (v246, (v247, (v248, (v249, v250)))))))))))))))))) =>
 bif (decide ((List.length v250) ≤ (List.length v250))) then 
 some (Sum.inl (v232, (v233, (v234, (v235, (v236, (v237, (v238, (v239, (v240, (v241, (v242, (v243, (v244, (v245, (v246, (v247, (v248, ((maxA v249 x118), (List.take (List.length v250) v250))))))))))))))))))))
 else none) fun (v251, (v252, (v253, (v254, (v255, (v256, (v257, (v258, (v259, (v260, (v261, (v262, (v263, (v264, (v265, (v266, (v267, (v268, v269)))))))))))))))))) =>
 bif (decide (((0 : Int) ≤ v96) ∧ (v96 < (((List.length a1) : Nat) : Int)))) then 
 bindO a1[(Int.toNat v96)]? fun x270 =>
 bif (decide (((0 : Int) ≤ v96) ∧ (v96 < (((List.length a1) : Nat) : Int)))) then 
 bindO a1[(Int.toNat v96)]? fun x271 =>
 bindO (client_Step ((v251, (v252, v253)), (x270.2.1, (x271.2.2, (0 : Int))))) fun ((x273, (x274, x275)), x276) =>
 joinO (bif (decide ((List.length v269) ≤ (List.length v269))) then 
 loopO (fun (v277, (v278, (v279, (v280, (v281, (v282, (v283, (v284, (v285, (v286, (v287, (v288, (v289, (v290, (v291, (v292, (v293, (v294, (v295, v296))))))))))))))))))) =>
 bif (decide (v277 < (((List.length x276) : Nat) : Int))) then
 bif (decide (((0 : Int) ≤ v277) ∧ (v277 < (((List.length x276) : Nat) : Int)))) then 
 bindO x276[(Int.toNat v277)]? fun x297 =>
 bif (decide ((List.length v296) ≤ (List.length v296))) then 
 bif (decide (((List.length ((List.take (List.length v296) v296) ++ ((v295, (x297.1, (x297.2.1, (x297.2.2.1, x297.2.2.2)))) :: ([] : List (Int × (Int × (Int × (Int × Int)))))))) * 40) ≤ 140737488355328)) then 
 bindO (some ((List.take (List.length v296) v296) ++ ((v295, (x297.1, (x297.2.1, (x297.2.2.1, x297.2.2.2)))) :: ([] : List (Int × (Int × (Int × (Int × Int)))))))) fun x298 =>
 bif (decide (((0 : Int) ≤ v277) ∧ (v277 < (((List.length x276) : Nat) : Int)))) then 
 bindO x276[(Int.toNat v277)]? fun x299 =>
 bif (decide (x299.1 = (4 : Int))) then
 bif (decide (((0 : Int) ≤ v277) ∧ (v277 < (((List.length x276) : Nat) : Int)))) then 
 bindO x276[(Int.toNat v277)]? fun x300 =>
 bif (decide (x300.2.2.1 < (14 : Int))) then
 bif (decide (((0 : Int) ≤ v277) ∧ (v277 < (((List.length x276) : Nat) : Int)))) then 
 bindO x276[(Int.toNat v277)]? fun x301 =>
 bif (decide (((0 : Int) ≤ v277) ∧ (v277 < (((List.length x276) : Nat) : Int)))) then 
 bindO x276[(Int.toNat v277)]? fun x302 =>
 bif (decide (((0 : Int) ≤ x301.2.2.1) ∧ (x301.2.2.1 < (14 : Int)))) then 
 bif (decide ((((Int.toNat x301.2.2.1) * 1) + 1) ≤ 15)) then 
 bindO (some (putL (v281 :: (v282 :: (v283 :: (v284 :: (v285 :: (v286 :: (v287 :: (v288 :: (v289 :: (v290 :: (v291 :: (v292 :: (v293 :: (v294 :: (v295 :: ([] : List Int)))))))))))))))) ((Int.toNat x301.2.2.1) * 1) ((Go.IntKind.wrap .i64 (v295 + (maxA (1 : Int) x302.2.2.2))) :: ([] : List Int)))) fun x304 =>
 bif (decide ((List.length x298) ≤ (List.length x298))) then 
 some (Sum.inl ((Go.IntKind.wrap .i64 (v277 + (1 : Int))), (v278, (v279, (v280, ((List.getD x304 0 (0 : Int)), ((List.getD x304 1 (0 : Int)), ((List.getD x304 2 (0 : Int)), ((List.getD x304 3 (0 : Int)), ((List.getD x304 4 (0 : Int)), ((List.getD x304 5 (0 : Int)), ((List.getD x304 6 (0 : Int)), ((List.getD x304 7 (0 : Int)), ((List.getD x304 8 (0 : Int)), ((List.getD x304 9 (0 : Int)), ((List.getD x304 10 (0 : Int)), ((List.getD x304 11 (0 : Int)), ((List.getD x304 12 (0 : Int)), ((List.getD x304 13 (0 : Int)), ((List.getD x304 14 (0 : Int)), (List.take (List.length x298) x298)))))))))))))))))))))
 else none
 else none
 else none
 else none
 else none
 else
 bif (decide ((List.length x298) ≤ (List.length x298))) then 
 some (Sum.inl ((Go.IntKind.wrap .i64 (v277 + (1 : Int))), (v278, (v279, (v280, (v281, (v282, (v283, (v284, (v285, (v286, (v287, (v288, (v289, (v290, (v291, (v292, (v293, (v294, (v295, (List.take (List.length x298) x298)))))))))))))))))))))
 else none
 else none
 else
 bif (decide ((List.length x298) ≤ (List.length x298))) then 
 some (Sum.inl ((Go.IntKind.wrap .i64 (v277 + (1 : Int))), (v278, (v279, (v280, (v281, (v282, (v283, (v284, (v285, (v286, (v287, (v288, (v289, (v290, (v291, (v292, (v293, (v294, (v295, (List.take (List.length x298) x298)))))))))))))))))))))
 else none
 else none
 else none
 else none
 else none
 else
 outO (bif (decide ((List.length v296) ≤ (List.length v296))) then 
 some (Sum.inl (v278, (v279, (v280, (v281, (v282, (v283, (v284, (v285, (v286, (v287, (v288, (v289, (v290, (v291, (v292, (v293, (v294, (v295, (List.take (List.length v296) v296))))))))))))))))))))
 else none)) ((0 : Int), (x273, (x274, (x275, (v254, (v255, (v256, (v257, (v258, (v259, (v260, (v261, (v262, (v263, (v264, (v265, (v266, (v267, (v268, (List.take (List.length v269) v269))))))))))))))))))))
 else none) fun (v308, (v309, (v310, (v311, (v312, (v313, (v314, (v315, (v316, (v317, (v318, (v319, (v320, (v321, (v322, (v323, (v324, (v325, v326)))))))))))))))))) =>
 bif (decide ((List.length v326) ≤ (List.length v326))) then 
 some (Sum.inl ((Go.IntKind.wrap .i64 (v96 + (1 : Int))), (v308, (v309, (v310, (v311, (v312, (v313, (v314, (v315, (v316, (v317, (v318, (v319, (v320, (v321, (v322, (v323, (v324, (v325, (List.take (List.length v326) v326)))))))))))))))))))))
 else none
 else none
 else none
 else none
 else
 outO (bif (decide ((List.length v115) ≤ (List.length v115))) then 
 some (Sum.inl (v97, (v98, (v99, (v100, (v101, (v102, (v103, (v104, (v105, (v106, (v107, (v108, (v109, (v110, (v111, (v112, (v113, (v114, (List.take (List.length v115) v115))))))))))))))))))))
 else none)
 else
 outO (bif (decide ((List.length v115) ≤ (List.length v115))) then 
 some (Sum.inl (v97, (v98, (v99, (v100, (v101, (v102, (v103, (v104, (v105, (v106, (v107, (v108, (v109, (v110, (v111, (v112, (v113, (v114, (List.take (List.length v115) v115))))))))))))))))))))
 else none)) ((0 : Int), (v77, (v78, (v79, (v80, (v81, (v82, (v83, (v84, (v85, (v86, (v87, (v88, (v89, (v90, (v91, (v92, (v93, (v94, (List.take (List.length v95) v95))))))))))))))))))))
 else none) fun (v328, (v329, (v330, (v331, (v332, (v333, (v334, (v335, (v336, (v337, (v338, (v339, (v340, (v341, (v342, (v343, (v344, (v345, v346)))))))))))))))))) =>
 bindO (some (Go.IntKind.wrap .i64 (v345 + (37000 : Int)))) fun x347 =>
 joinO (joinO (bif (decide ((List.length v346) ≤ (List.length v346))) then 
 loopO (fun (v348, (v349, (v350, (v351, (v352, (v353, (v354, (v355, (v356, (v357, (v358, (v359, (v360, (v361, (v362, (v363, (v364, (v365, (v366, v367))))))))))))))))))) =>
 bif (decide (v348 < (200 : Int))) then
 joinO (joinO (loopO (fun (v368, v369) =>
 bif (decide (v368 < (14 : Int))) then
 bif (decide (((0 : Int) ≤ v368) ∧ (v368 < (14 : Int)))) then 
 bindO (v352 :: (v353 :: (v354 :: (v355 :: (v356 :: (v357 :: (v358 :: (v359 :: (v360 :: (v361 :: (v362 :: (v363 :: (v364 :: (v365 :: (v366 :: ([] : List Int))))))))))))))))[(Int.toNat v368)]? fun x370 =>
 bif (decide (x370 ≥ (0 : Int))) then
 bif (decide (((0 : Int) ≤ v368) ∧ (v368 < (14 : Int)))) then 
 bindO (v352 :: (v353 :: (v354 :: (v355 :: (v356 :: (v357 :: (v358 :: (v359 :: (v360 :: (v361 :: (v362 :: (v363 :: (v364 :: (v365 :: (v366 :: ([] : List Int))))))))))))))))[(Int.toNat v368)]? fun x371 =>
 bif (decide (x371 ≤ x347)) then
 bif (decide (v369 < (0 : Int))) then
 some (Sum.inl ((Go.IntKind.wrap .i64 (v368 + (1 : Int))), v368))
 else
 bif (decide (((0 : Int) ≤ v368) ∧ (v368 < (14 : Int)))) then 
 bindO (v352 :: (v353 :: (v354 :: (v355 :: (v356 :: (v357 :: (v358 :: (v359 :: (v360 :: (v361 :: (v362 :: (v363 :: (v364 :: (v365 :: (v366 :: ([] : List Int))))))))))))))))[(Int.toNat v368)]? fun x373 =>
 bif (decide (((0 : Int) ≤ v369) ∧ (v369 < (14 : Int)))) then 
 bindO (v352 :: (v353 :: (v354 :: (v355 :: (v356 :: (v357 :: (v358 :: (v359 :: (v360 :: (v361 :: (v362 :: (v363 :: (v364 :: (v365 :: (v366 :: ([] : List Int))))))))))))))))[(Int.toNat v369)]? fun x374 =>
 bif (decide (x373 < x374)) then
 some (Sum.inl ((Go.IntKind.wrap .i64 (v368 + (1 : Int))), v368))
 else
 some (Sum.inl ((Go.IntKind.wrap .i64 (v368 + (1 : Int))), v369))
 else none
 else none
 else
 some (Sum.inl ((Go.IntKind.wrap .i64 (v368 + (1 : Int))), v369))
 else none
 else
 some (Sum.inl ((Go.IntKind.wrap .i64 (v368 + (1 : Int))), v369))
 else none
 else
 outO (some (Sum.inl (v368, v369)))) ((0 : Int), (-1 : Int))) fun (v379, v380) =>
 bif (decide (v380 < (0 : Int))) then
 outO (outO (bif (decide ((List.length v367) ≤ (List.length v367))) then 
 some (Sum.inl (v349, (v350, (v351, (v352, (v353, (v354, (v355, (v356, (v357, (v358, (v359, (v360, (v361, (v362, (v363, (v364, (v365, (v366, (List.take (List.length v367) v367))))))))))))))))))))
 else none))
 else
 bif (decide (((0 : Int) ≤ v380) ∧ (v380 < (14 : Int)))) then 
 bindO (v352 :: (v353 :: (v354 :: (v355 :: (v356 :: (v357 :: (v358 :: (v359 :: (v360 :: (v361 :: (v362 :: (v363 :: (v364 :: (v365 :: (v366 :: ([] : List Int))))))))))))))))[(Int.toNat v380)]? fun x381 =>
 bif (decide (((0 : Int) ≤ v380) ∧ (v380 < (14 : Int)))) then 
 bif (decide ((((Int.toNat v380) * 1) + 1) ≤ 15)) then 
 bindO (some (putL (v352 :: (v353 :: (v354 :: (v355 :: (v356 :: (v357 :: (v358 :: (v359 :: (v360 :: (v361 :: (v362 :: (v363 :: (v364 :: (v365 :: (x381 :: ([] : List Int)))))))))))))))) ((Int.toNat v380) * 1) ((-1 : Int) :: ([] : List Int)))) fun x382 =>
 bindO (client_Step ((v349, (v350, v351)), ((5 : Int), ((0 : Int), (Go.IntKind.wrap .u8 v380))))) fun ((x385, (x386, x387)), x388) =>
 joinO (bif (decide ((List.length v367) ≤ (List.length v367))) then 
 loopO (fun (v389, (v390, (v391, (v392, (v393, (v394, (v395, (v396, (v397, (v398, (v399, (v400, (v401, (v402, (v403, (v404, (v405, (v406, (v407, v408))))))))))))))))))) =>
 bif (decide (v389 < (((List.length x388) : Nat) : Int))) then
 bif (decide (((0 : Int) ≤ v389) ∧ (v389 < (((List.length x388) : Nat) : Int)))) then 
 bindO x388[(Int.toNat v389)]? fun x409 =>
 bif (decide ((List.length v408) ≤ (List.length v408))) then 
 bif (decide (((List.length ((List.take (List.length v408) v408) ++ ((v407, (x409.1, (x409.2.1, (x409.2.2.1, x409.2.2.2)))) :: ([] : List (Int × (Int × (Int × (Int × Int)))))))) * 40) ≤ 140737488355328)) then 
 bindO (some ((List.take (List.length v408) v408) ++ ((v407, (x409.1, (x409.2.1, (x409.2.2.1, x409.2.2.2)))) :: ([] : List (Int × (Int × (Int × (Int × Int)))))))) fun x410 =>
 bif (decide (((0 : Int) ≤ v389) ∧ (v389 < (((List.length x388) : Nat) : Int)))) then 
 bindO x388[(Int.toNat v389)]? fun x411 =>
 bif (decide (x411.1 = (4 : Int))) then
 bif (decide (((0 : Int) ≤ v389) ∧ (v389 < (((List.length x388) : Nat) : Int)))) then 
 bindO x388[(Int.toNat v389)]? fun x412 =>
 bif (decide (x412.2.2.1 < (14 : Int))) then
 bif (decide (((0 : Int) ≤ v389) ∧ (v389 < (((List.length x388) : Nat) : Int)))) then 
 bindO x388[(Int.toNat v389)]? fun x413 =>
 bif (decide (((0 : Int) ≤ v389) ∧ (v389 < (((List.length x388) : Nat) : Int)))) then 
 bindO x388[(Int.toNat v389)]? fun x414 =>
 bif (decide (((0 : Int) ≤ x413.2.2.1) ∧ (x413.2.2.1 < (14 : Int)))) then 
 bif (decide ((((Int.toNat x413.2.2.1) * 1) + 1) ≤ 15)) then 
 bindO (some (putL (v393 :: (v394 :: (v395 :: (v396 :: (v397 :: (v398 :: (v399 :: (v400 :: (v401 :: (v402 :: (v403 :: (v404 :: (v405 :: (v406 :: (v407 :: ([] : List Int)))))))))))))))) ((Int.toNat x413.2.2.1) * 1) ((Go.IntKind.wrap .i64 (v407 + (maxA (1 : Int) x414.2.2.2))) :: ([] : List Int)))) fun x416 =>
 bif (decide ((List.length x410) ≤ (List.length x410))) then 
 some (Sum.inl ((Go.IntKind.wrap .i64 (v389 + (1 : Int))), (v390, (v391, (v392, ((List.getD x416 0 (0 : Int)), ((List.getD x416 1 (0 : Int)), ((List.getD x416 2 (0 : Int)), ((List.getD x416 3 (0 : Int)), ((List.getD x416 4 (0 : Int)), ((List.getD x416 5 (0 : Int)), ((List.getD x416 6 (0 : Int)), ((List.getD x416 7 (0 : Int)), ((List.getD x416 8 (0 : Int)), ((List.getD x416 9 (0 : Int)), ((List.getD x416 10 (0 : Int)), ((List.getD x416 11 (0 : Int)), ((List.getD x416 12 (0 : Int)), ((List.getD x416 13 (0 : Int)), ((List.getD x416 14 (0 : Int)), (List.take (List.length x410) x410)))))))))))))))))))))
 else none
 else none
 else none
 else none
 else none
 else
 bif (decide ((List.length x410) ≤ (List.length x410))) then 
 some (Sum.inl ((Go.IntKind.wrap .i64 (v389 + (1 : Int))), (v390, (v391, (v392, (v393, (v394, (v395, (v396, (v397, (v398, (v399, (v400, (v401, (v402, (v403, (v404, (v405, (v406, (v407, (List.take (List.length x410) x410)))))))))))))))))))))
 else none
 else none
 else
 bif (decide ((List.length x410) ≤ (List.length x410))) then 
 some (Sum.inl ((Go.IntKind.wrap .i64 (v389 + (1 : Int))), (v390, (v391, (v392, (v393, (v394, (v395, (v396, (v397, (v398, (v399, (v400, (v401, (v402, (v403, (v404, (v405, (v406, (v407, (List.take (List.length x410) x410)))))))))))))))))))))
 else none
 else none
 else none
 else none
 else none
 else
 outO (bif (decide ((List.length v408) ≤ (List.length v408))) then 
 some (Sum.inl (v390, (v391, (v392, (v393, (v394, (v395, (v396, (v397, (v398, (v399, (v400, (v401, (v402, (v403, (v404, (v405, (v406, (v407, (List.take (List.length v408) v408))))))))))))))))))))
 else none)) ((0 : Int), (x385, (x386, (x387, ((List.getD x382 0 (0 : Int)), ((List.getD x382 1 (0 : Int)), ((List.getD x382 2 (0 : Int)), ((List.getD x382 3 (0 : Int)), ((List.getD x382 4 (0 : Int)), ((List.getD x382 5 (0 : Int)), ((List.getD x382 6 (0 : Int)), ((List.getD x382 7 (0 : Int)), ((List.getD x382 8 (0 : Int)), ((List.getD x382 9 (0 : Int)), ((List.getD x382 10 (0 : Int)), ((List.getD x382 11 (0 : Int)), ((List.getD x382 12 (0 : Int)), ((List.getD x382 13 (0 : Int)), ((List.getD x382 14 (0 : Int)), (List.take (List.length v367) v367))))))))))))))))))))
 else none) fun (v420, (v421, (v422, (v423, (v424, (v425, (v426, (v427, (v428, (v429, (v430, (v431, (v432, (v433, (v434, (v435, (v436, (v437, v438)))))))))))))))))) =>
 bif (decide ((List.length v438) ≤ (List.length v438))) then 
 some (Sum.inl (v379, (v380, (v420, (v421, (v422, (v423, (v424, (v425, (v426, (v427, (v428, (v429, (v430, (v431, (v432, (v433, (v434, (v435, (v436, (v437, (List.take (List.length v438) v438))))))))))))))))))))))
 else none
 else none
 else none
 else none) fun (v439, (v440, (v441, (v442, (v443, (v444, (v445, (v446, (v447, (v448, (v449, (v450, (v451, (v452, (v453, (v454, (v455, (v456, (v457, (v458, v459)))))))))))))))))))) =>
 bif (decide ((List.length v459) ≤ (List.length v459))) then 
 some (Sum.inl ((Go.IntKind.wrap .i64 (v348 + (1 : Int))), (v441, (v442, (v443, (v444, (v445, (v446, (v447, (v448, (v449, (v450, (v451, (v452, (v453, (v454, (v455, (v456, (v457, (v458, (List.take (List.length v459) v459)))))))))))))))))))))
 else none
 else
 outO (bif (decide ((List.length v367) ≤ (List.length v367))) then 
 some (Sum.inl (v349, (v350, (v351, (v352, (v353, (v354, (v355, (v356, (v357, (v358, (v359, (v360, (v361, (v362, (v363, (v364, (v365, (v366, (List.take (List.length v367) v367))))))))))))))))))))
 else none)) ((0 : Int), (v328, (v329, (v330, (v331, (v332, (v333, (v334, (v335, (v336, (v337, (v338, (v339, (v340, (v341, (v342, (v343, (v344, (v345, (List.take (List.length v346) v346))))))))))))))))))))
 else none) fun (v461, (v462, (v463, (v464, (v465, (v466, (v467, (v468, (v469, (v470, (v471, (v472, (v473, (v474, (v475, (v476, (v477, (v478, v479)))))))))))))))))) =>
 bif (decide ((List.length v479) ≤ (List.length v479))) then 
 some (Sum.inl (v461, (v462, (v463, (v464, (v465, (v466, (v467, (v468, (v469, (v470, (v471, (v472, (v473, (v474, (v475, (v476, (v477, ((maxA v478 x347), (List.take (List.length v479) v479))))))))))))))))))))
 else none) fun (v480, (v481, (v482, (v483, (v484, (v485, (v486, (v487, (v488, (v489, (v490, (v491, (v492, (v493, (v494, (v495, (v496, (v497, v498)))))))))))))))))) =>
 joinO (joinO (loopO (fun (v499, v500) =>
 bif (decide (v499 < (((List.length v498) : Nat) : Int))) then
 bif (decide (((0 : Int) ≤ v499) ∧ (v499 < (((List.length v498) : Nat) : Int)))) then 
 bindO v498[(Int.toNat v499)]? fun x501 =>
 bif (decide (x501.2.1 = (3 : Int))) then
 bif (decide (((0 : Int) ≤ v499) ∧ (v499 < (((List.length v498) : Nat) : Int)))) then 
 bindO v498[(Int.toNat v499)]? fun x502 =>
 bif (decide (x502.1 ≤ v497)) then
 bif (decide (((0 : Int) ≤ v499) ∧ (v499 < (((List.length v498) : Nat) : Int)))) then 
 bindO v498[(Int.toNat v499)]? fun x503 =>
 bif (decide (x503.2.2.1 ≥ (200 : Int))) then
 bif (decide (((0 : Int) ≤ v499) ∧ (v499 < (((List.length v498) : Nat) : Int)))) then 
 bindO v498[(Int.toNat v499)]? fun x504 =>
 bif (decide (x504.2.2.1 ≤ (699 : Int))) then
 some (Sum.inl ((Go.IntKind.wrap .i64 (v499 + (1 : Int))), (Go.IntKind.wrap .i64 (v500 + (1 : Int)))))
 else
 some (Sum.inl ((Go.IntKind.wrap .i64 (v499 + (1 : Int))), v500))
 else none
 else
 some (Sum.inl ((Go.IntKind.wrap .i64 (v499 + (1 : Int))), v500))
 else none
 else
 some (Sum.inl ((Go.IntKind.wrap .i64 (v499 + (1 : Int))), v500))
 else none
 else
 some (Sum.inl ((Go.IntKind.wrap .i64 (v499 + (1 : Int))), v500))
 else none
 else
 outO (some (Sum.inl v500))) ((0 : Int), (0 : Int))) fun v511 =>
 some (Sum.inl v511)) fun v512 =>
 joinO (joinO (loopO (fun (v513, v514) =>
 bif (decide (v513 < (((List.length v498) : Nat) : Int))) then
 bif (decide (((0 : Int) ≤ v513) ∧ (v513 < (((List.length v498) : Nat) : Int)))) then 
 bindO v498[(Int.toNat v513)]? fun x515 =>
 bif (decide (x515.2.1 = (5 : Int))) then
 bif (decide (((0 : Int) ≤ v513) ∧ (v513 < (((List.length v498) : Nat) : Int)))) then 
 bindO v498[(Int.toNat v513)]? fun x516 =>
 bif (decide (x516.1 ≤ v497)) then
 bif (decide (((0 : Int) ≤ v513) ∧ (v513 < (((List.length v498) : Nat) : Int)))) then 
 bindO v498[(Int.toNat v513)]? fun x517 =>
 bif (decide (x517.2.2.1 ≥ (0 : Int))) then
 bif (decide (((0 : Int) ≤ v513) ∧ (v513 < (((List.length v498) : Nat) : Int)))) then 
 bindO v498[(Int.toNat v513)]? fun x518 =>
 bif (decide (x518.2.2.1 ≤ (1000 : Int))) then
 some (Sum.inl ((Go.IntKind.wrap .i64 (v513 + (1 : Int))), (Go.IntKind.wrap .i64 (v514 + (1 : Int)))))
 else
 some (Sum.inl ((Go.IntKind.wrap .i64 (v513 + (1 : Int))), v514))
 else none
 else
 some (Sum.inl ((Go.IntKind.wrap .i64 (v513 + (1 : Int))), v514))
 else none
 else
 some (Sum.inl ((Go.IntKind.wrap .i64 (v513 + (1 : Int))), v514))
 else none
 else
 some (Sum.inl ((Go.IntKind.wrap .i64 (v513 + (1 : Int))), v514))
 else none
 else
 outO (some (Sum.inl v514))) ((0 : Int), (0 : Int))) fun v525 =>
 some (Sum.inl v525)) fun v526 =>
 joinO (joinO (loopO (fun (v528, v529) =>
 bif (decide (v528 < (((List.length v498) : Nat) : Int))) then
 bif (decide (((0 : Int) ≤ v528) ∧ (v528 < (((List.length v498) : Nat) : Int)))) then 
 bindO v498[(Int.toNat v528)]? fun x530 =>
 bif (decide (x530.2.1 = (6 : Int))) then
 bif (decide (((0 : Int) ≤ v528) ∧ (v528 < (((List.length v498) : Nat) : Int)))) then 
 bindO v498[(Int.toNat v528)]? fun x531 =>
 bif (decide (x531.1 ≤ v497)) then
 bif (decide (((0 : Int) ≤ v528) ∧ (v528 < (((List.length v498) : Nat) : Int)))) then 
 bindO v498[(Int.toNat v528)]? fun x532 =>
 bif (decide (x532.2.2.1 ≥ (0 : Int))) then
 bif (decide (((0 : Int) ≤ v528) ∧ (v528 < (((List.length v498) : Nat) : Int)))) then 
 bindO v498[(Int.toNat v528)]? fun x533 =>
 bif (decide (x533.2.2.1 ≤ (1000 : Int))) then
 some (Sum.inl ((Go.IntKind.wrap .i64 (v528 + (1 : Int))), (Go.IntKind.wrap .i64 (v529 + (1 : Int)))))
 else
 some (Sum.inl ((Go.IntKind.wrap .i64 (v528 + (1 : Int))), v529))
 else none
 else
 some (Sum.inl ((Go.IntKind.wrap .i64 (v528 + (1 : Int))), v529))
 else none
 else
 some (Sum.inl ((Go.IntKind.wrap .i64 (v528 + (1 : Int))), v529))
 else none
 else
 some (Sum.inl ((Go.IntKind.wrap .i64 (v528 + (1 : Int))), v529))
 else none
 else
 outO (some (Sum.inl v529))) ((0 : Int), (0 : Int))) fun v540 =>
 some (Sum.inl v540)) fun v541 =>
 bif (decide ((Go.IntKind.wrap .i64 ((Go.IntKind.wrap .i64 (v512 + v526)) + v541)) ≠ (1 : Int))) then
 some Bool.false
 else
 joinO (loopO (fun (v543, v544) =>
 bif (decide (v543 < (((List.length v498) : Nat) : Int))) then
 bif (decide (((0 : Int) ≤ v543) ∧ (v543 < (((List.length v498) : Nat) : Int)))) then 
 bindO v498[(Int.toNat v543)]? fun x545 =>
 bif (decide (((0 : Int) ≤ v543) ∧ (v543 < (((List.length v498) : Nat) : Int)))) then 
 bindO v498[(Int.toNat v543)]? fun x546 =>
 joinO (bif v544 then
 bif (decide (x545.2.1 = (3 : Int))) then
 outO (outO (outO (some Bool.false)))
 else
 bif (decide (x545.2.1 = (1 : Int))) then
 outO (outO (outO (some Bool.false)))
 else
 some (Sum.inl ())
 else
 some (Sum.inl ())) fun _ =>
 bif v544 then
 some (Sum.inl ((Go.IntKind.wrap .i64 (v543 + (1 : Int))), Bool.true))
 else
 bif (decide (x545.2.1 = (3 : Int))) then
 bif (decide (x546.2.2.1 ≥ (200 : Int))) then
 some (Sum.inl ((Go.IntKind.wrap .i64 (v543 + (1 : Int))), Bool.true))
 else
 bif (decide (x545.2.1 = (5 : Int))) then
 some (Sum.inl ((Go.IntKind.wrap .i64 (v543 + (1 : Int))), Bool.true))
 else
 some (Sum.inl ((Go.IntKind.wrap .i64 (v543 + (1 : Int))), (decide (x545.2.1 = (6 : Int)))))
 else
 bif (decide (x545.2.1 = (5 : Int))) then
 some (Sum.inl ((Go.IntKind.wrap .i64 (v543 + (1 : Int))), Bool.true))
 else
 some (Sum.inl ((Go.IntKind.wrap .i64 (v543 + (1 : Int))), (decide (x545.2.1 = (6 : Int)))))
 else none
 else none
 else
 outO (some (Sum.inl ()))) ((0 : Int), Bool.false)) fun _ =>
 joinO (joinO (loopO (fun (v553, v554) =>
 bif (decide (v553 < (((List.length v498) : Nat) : Int))) then
 bif (decide (((0 : Int) ≤ v553) ∧ (v553 < (((List.length v498) : Nat) : Int)))) then 
 bindO v498[(Int.toNat v553)]? fun x555 =>
 bif (decide (x555.2.1 = (7 : Int))) then
 bif (decide (((0 : Int) ≤ v553) ∧ (v553 < (((List.length v498) : Nat) : Int)))) then 
 bindO v498[(Int.toNat v553)]? fun x556 =>
 bif (decide (x556.1 ≤ (37000 : Int))) then
 bif (decide (((0 : Int) ≤ v553) ∧ (v553 < (((List.length v498) : Nat) : Int)))) then 
 bindO v498[(Int.toNat v553)]? fun x557 =>
 bif (decide (x557.2.2.1 ≥ (0 : Int))) then
 bif (decide (((0 : Int) ≤ v553) ∧ (v553 < (((List.length v498) : Nat) : Int)))) then 
 bindO v498[(Int.toNat v553)]? fun x558 =>
 bif (decide (x558.2.2.1 ≤ (0 : Int))) then
 some (Sum.inl ((Go.IntKind.wrap .i64 (v553 + (1 : Int))), (Go.IntKind.wrap .i64 (v554 + (1 : Int)))))
 else
 some (Sum.inl ((Go.IntKind.wrap .i64 (v553 + (1 : Int))), v554))
 else none
 else
 some (Sum.inl ((Go.IntKind.wrap .i64 (v553 + (1 : Int))), v554))
 else none
 else
 some (Sum.inl ((Go.IntKind.wrap .i64 (v553 + (1 : Int))), v554))
 else none
 else
 some (Sum.inl ((Go.IntKind.wrap .i64 (v553 + (1 : Int))), v554))
 else none
 else
 outO (some (Sum.inl v554))) ((0 : Int), (0 : Int))) fun v565 =>
 some (Sum.inl v565)) fun v566 =>
 bif (decide (v566 = (1 : Int))) then
 bif (decide (v480 = (7 : Int))) then
 bindO (client_May (v480, (v481, v482))) fun x567 =>
 bif x567 then
 joinO (joinO (joinO (loopO (fun (v568, v569) =>
 bif (decide (v568 < (((List.length v498) : Nat) : Int))) then
 bif (decide (((0 : Int) ≤ v568) ∧ (v568 < (((List.length v498) : Nat) : Int)))) then 
 bindO v498[(Int.toNat v568)]? fun x570 =>
 bif (decide (x570.2.1 = (7 : Int))) then
 bif (decide (((0 : Int) ≤ v568) ∧ (v568 < (((List.length v498) : Nat) : Int)))) then 
 bindO v498[(Int.toNat v568)]? fun x571 =>
 bif (decide (x571.1 ≤ v497)) then
 bif (decide (((0 : Int) ≤ v568) ∧ (v568 < (((List.length v498) : Nat) : Int)))) then 
 bindO v498[(Int.toNat v568)]? fun x572 =>
 bif (decide (x572.2.2.1 ≥ (0 : Int))) then
 bif (decide (((0 : Int) ≤ v568) ∧ (v568 < (((List.length v498) : Nat) : Int)))) then 
 bindO v498[(Int.toNat v568)]? fun x573 =>
 bif (decide (x573.2.2.1 ≤ (1000 : Int))) then
 some (Sum.inl ((Go.IntKind.wrap .i64 (v568 + (1 : Int))), (Go.IntKind.wrap .i64 (v569 + (1 : Int)))))
 else
 some (Sum.inl ((Go.IntKind.wrap .i64 (v568 + (1 : Int))), v569))
 else none
 else
 some (Sum.inl ((Go.IntKind.wrap .i64 (v568 + (1 : Int))), v569))
 else none
 else
 some (Sum.inl ((Go.IntKind.wrap .i64 (v568 + (1 : Int))), v569))
 else none
 else
 some (Sum.inl ((Go.IntKind.wrap .i64 (v568 + (1 : Int))), v569))
 else none
 else
 outO (some (Sum.inl v569))) ((0 : Int), (0 : Int))) fun v580 =>
 some (Sum.inl v580)) fun v581 =>
 bif (decide (v581 > (1 : Int))) then
 some (Sum.inl Bool.false)
 else
 bif ((decide (v581 = (1 : Int))) != (decide (v480 = (7 : Int)))) then
 some (Sum.inl Bool.false)
 else
 bif (decide (v581 = (0 : Int))) then
 some (Sum.inl Bool.true)
 else
 bif (decide ((((List.length v498) : Nat) : Int) > (0 : Int))) then
 bindO (some (Go.IntKind.wrap .i64 ((((List.length v498) : Nat) : Int) - (1 : Int)))) fun x582 =>
 bif (decide (((0 : Int) ≤ x582) ∧ (x582 < (((List.length v498) : Nat) : Int)))) then 
 bindO v498[(Int.toNat x582)]? fun x583 =>
 some (Sum.inl (decide (x583.2.1 = (7 : Int))))
 else none
 else
 some (Sum.inl Bool.false)) fun v584 =>
 bif v584 then
 some Bool.true
 else
 some Bool.false
 else
 some Bool.false
 else
 some Bool.false
 else
 some Bool.false
noncomputable def cons4 : List (Nat × CE) := [(10, ⟨[], riB, (fun _ => some true)⟩), (16, ⟨[], [(.tmp 0 true [(.dat (.int .u8)), (.dat (.int .i64)), (.dat (.int .i64))]), (.tmp 1 false [(.dat (.list (.pair (.int .u8) (.pair (.int .i64) (.pair (.int .u8) (.int .i64))))))])], client_Start⟩), (17, ⟨[], [(.tmp 0 true [(.dat (.int .u8)), (.dat (.int .i64)), (.dat (.int .i64))]), (.tmp 1 false [(.dat (.list (.pair (.int .u8) (.pair (.int .i64) (.pair (.int .u8) (.int .i64))))))])], dialtoneref13_Start⟩), (14, ⟨[(.tmp 0 true [(.dat (.int .u8)), (.dat (.int .i64)), (.dat (.int .i64))])], [(.tmp 0 false [(.dat .bool)])], client_May⟩), (34, ⟨[(.tmp 0 true [(.dat (.int .u8)), (.dat (.int .i64)), (.dat (.int .i64))])], [(.tmp 0 false [(.dat .bool)])], dialtoneref13_Short⟩), (35, ⟨[(.tmp 0 false [(.dat (.int .i64))]), (.tmp 1 false [(.dat (.int .i64))]), (.tmp 2 false [(.dat (.int .i64))])], [(.tmp 0 false [(.dat .bool)])], dialtoneref12_From⟩), (28, ⟨[(.tmp 0 true [(.dat (.int .u8)), (.dat (.int .i64)), (.dat (.int .i64))])], [(.tmp 0 false [(.dat .bool)])], dialtoneref13_May⟩), (24, ⟨[(.tmp 0 true [(.dat (.int .u8)), (.dat (.int .i64)), (.dat (.int .i64))]), (.tmp 1 true [(.dat (.int .u8)), (.dat (.int .i64)), (.dat (.int .u8))])], [(.tmp 0 true [(.dat (.int .u8)), (.dat (.int .i64)), (.dat (.int .i64))]), (.tmp 1 false [(.dat (.list (.pair (.int .u8) (.pair (.int .i64) (.pair (.int .u8) (.int .i64))))))])], client_Step⟩), (20, ⟨[(.tmp 0 false [(.dat (.int .i64))])], [(.tmp 0 false [(.dat (.int .i64))])], client_Copies⟩), (33, ⟨[(.tmp 0 true [(.dat (.int .u8)), (.dat (.int .i64)), (.dat (.int .i64))]), (.tmp 1 true [(.dat (.int .u8)), (.dat (.int .i64)), (.dat (.int .u8))])], [(.tmp 0 true [(.dat (.int .u8)), (.dat (.int .i64)), (.dat (.int .i64))]), (.tmp 1 false [(.dat (.list (.pair (.int .u8) (.pair (.int .i64) (.pair (.int .u8) (.int .i64))))))])], dialtoneref13_open⟩), (27, ⟨[(.tmp 0 true [(.dat (.int .u8)), (.dat (.int .i64)), (.dat (.int .i64))]), (.tmp 1 true [(.dat (.int .u8)), (.dat (.int .i64)), (.dat (.int .u8))])], [(.tmp 0 true [(.dat (.int .u8)), (.dat (.int .i64)), (.dat (.int .i64))]), (.tmp 1 false [(.dat (.list (.pair (.int .u8) (.pair (.int .i64) (.pair (.int .u8) (.int .i64))))))])], dialtoneref13_Step⟩), (21, ⟨[(.tmp 0 false [(.dat (.int .i64))])], [(.tmp 0 false [(.dat (.int .i64))])], dialtoneref13_Copies⟩), (18, ⟨[(.tmp 0 false [(.dat (.list (.pair (.int .u8) (.pair (.int .i64) (.pair (.int .u8) (.int .i64))))))]), (.tmp 1 false [(.dat (.list (.pair (.int .u8) (.pair (.int .i64) (.pair (.int .u8) (.int .i64))))))])], [(.tmp 0 false [(.dat .bool)])], dialtoneref12_Same⟩), (19, ⟨[(.tmp 0 true [(.dat (.int .u8)), (.dat (.int .i64)), (.dat (.int .i64))]), (.tmp 1 true [(.dat (.int .u8)), (.dat (.int .i64)), (.dat (.int .u8))])], [(.tmp 0 false [(.dat .bool)])], dialtonelaw13_step⟩), (9, ⟨[(.tmp 0 true [(.dat (.int .u8)), (.dat (.int .i64)), (.dat (.int .i64))]), (.tmp 1 false [(.dat (.list (.int .i64)))])], [(.tmp 0 false [(.dat .bool)])], dialtonelaw13_inputs⟩), (5, ⟨[(.tmp 0 true [(.dat (.int .u8)), (.dat (.int .i64)), (.dat (.int .i64))]), (.tmp 1 true [(.dat (.int .u8)), (.dat (.int .i64)), (.dat (.int .u8))]), (.tmp 2 false [(.dat (.int .i64))])], [(.tmp 0 false [(.dat .bool)])], dialtonelaw13_ClientSteps⟩), (3, ⟨[], [(.tmp 0 false [(.dat .bool)])], dialtonelaw13_ClientTable⟩)]
theorem cons4_ok : ConL Try.prog cons4 := ⟨con_true (by kernel_rfl) lives_o, con16, con17, con14, con34, con35, con28, con24, con20, con33, con27, con21, con18, con19, con9, con5, con3, trivial⟩
theorem con4 : ConOk Try.prog 4 ⟨[(.tmp 0 false [(.dat (.list (.pair (.int .u16) (.pair (.int .u8) (.int .i64)))))])], [(.tmp 0 false [(.dat .bool)])], dialtonelaw13_ClientOne⟩ :=
  tree_ok (plan := planOf plan4) (eg := egNo) KK tabL_ok (conOf_ok cons4_ok) Try.func4 (by kernel_rfl) (by kernel_rfl) 10000 (fun a r h => Eq.trans (show _ = dialtonelaw13_ClientOne a from by kernel_rfl) h)
end Go.Proofs.Ytohhpcggahlpjaa
