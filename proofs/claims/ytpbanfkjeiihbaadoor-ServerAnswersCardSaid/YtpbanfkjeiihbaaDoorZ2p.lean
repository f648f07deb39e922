import Derived.Test.YtpbanfkjeiihbaaDoorFp
import Derived.Test.YtpbanfkjeiihbaaDoorXBp
import Derived.Test.YtpbanfkjeiihbaaDoorLp
import Derived.Test.YtpbanfkjeiihbaaDoorZ1p
set_option linter.unusedVariables false
set_option maxRecDepth 1000000
set_option maxHeartbeats 0
namespace Go.Proofs.YtpbanfkjeiihbaaDoor
open Go.RowKit
def plan5 : List (Nat × PL) := [(134479888, .unroll), (18049585029317121, (.carry [.mix 5 [(.dat (.int .u8)), (.dat (.int .i64)), (.dat (.int .i64)), (.dat (.int .i64)), (.dat (.int .i64)), (.dat (.int .i64)), (.dat (.int .i64)), (.dat (.int .i64)), (.dat (.int .i64)), (.dat (.int .i64)), (.dat (.int .i64)), (.dat (.int .i64)), (.dat (.int .i64)), (.dat (.int .i64)), (.dat (.int .i64)), (.dat (.int .i64)), (.dat (.int .i64)), (.dat (.int .i64)), .nil]])), (68853957121, (.carry [.drop 5, .drop 4, .mix 5 [(.dat (.int .u8)), (.dat (.int .i64)), (.dat (.int .i64)), (.dat (.int .i64)), (.dat (.int .i64)), (.dat (.int .i64)), (.dat (.int .i64)), (.dat (.int .i64)), (.dat (.int .i64)), (.dat (.int .i64)), (.dat (.int .i64)), (.dat (.int .i64)), (.dat (.int .i64)), (.dat (.int .i64)), (.dat (.int .i64)), (.dat (.int .i64)), (.dat (.int .i64)), (.dat (.int .i64)), (.own 10000007 55 (.pair (.int .i64) (.pair (.int .u8) (.pair (.int .i64) (.pair (.int .u8) (.int .i64))))))], .dead 10000002])), (2422574293977757238167558, (.carry [.tmp 2 false [(.dat (.int .i64))], .mix 5 [(.dat (.int .u8)), (.dat (.int .i64)), (.dat (.int .i64)), (.dat (.int .i64)), (.dat (.int .i64)), (.dat (.int .i64)), (.dat (.int .i64)), (.dat (.int .i64)), (.dat (.int .i64)), (.dat (.int .i64)), (.dat (.int .i64)), (.dat (.int .i64)), (.dat (.int .i64)), (.dat (.int .i64)), (.dat (.int .i64)), (.dat (.int .i64)), (.dat (.int .i64)), (.dat (.int .i64)), .nil]])), (2422574293977757372383251, (.carry [.mix 5 [(.dat (.int .u8)), (.dat (.int .i64)), (.dat (.int .i64)), (.dat (.int .i64)), (.dat (.int .i64)), (.dat (.int .i64)), (.dat (.int .i64)), (.dat (.int .i64)), (.dat (.int .i64)), (.dat (.int .i64)), (.dat (.int .i64)), (.dat (.int .i64)), (.dat (.int .i64)), (.dat (.int .i64)), (.dat (.int .i64)), (.dat (.int .i64)), (.dat (.int .i64)), (.dat (.int .i64)), (.own 10000002 55 (.pair (.int .i64) (.pair (.int .u8) (.pair (.int .i64) (.pair (.int .u8) (.int .i64))))))]])), (9241421688456087558, (.carry [.tmp 6 false [(.dat (.int .i64))], .tmp 5 false [(.dat (.int .i64))], .tmp 4 false [(.dat (.int .i64))], .mix 5 [(.dat (.int .u8)), (.dat (.int .i64)), (.dat (.int .i64)), (.dat (.int .i64)), (.dat (.int .i64)), (.dat (.int .i64)), (.dat (.int .i64)), (.dat (.int .i64)), (.dat (.int .i64)), (.dat (.int .i64)), (.dat (.int .i64)), (.dat (.int .i64)), (.dat (.int .i64)), (.dat (.int .i64)), (.dat (.int .i64)), (.dat (.int .i64)), (.dat (.int .i64)), (.dat (.int .i64)), (.own 10000006 55 (.pair (.int .i64) (.pair (.int .u8) (.pair (.int .i64) (.pair (.int .u8) (.int .i64))))))], .dead 10000002])), (85236755372152894798306972725774911494, (.carry [.tmp 6 false [(.dat (.int .i64))], .mix 5 [(.dat (.int .u8)), (.dat (.int .i64)), (.dat (.int .i64)), (.dat (.int .i64)), (.dat (.int .i64)), (.dat (.int .i64)), (.dat (.int .i64)), (.dat (.int .i64)), (.dat (.int .i64)), (.dat (.int .i64)), (.dat (.int .i64)), (.dat (.int .i64)), (.dat (.int .i64)), (.dat (.int .i64)), (.dat (.int .i64)), (.dat (.int .i64)), (.dat (.int .i64)), (.dat (.int .i64)), (.own 10000001 55 (.pair (.int .i64) (.pair (.int .u8) (.pair (.int .i64) (.pair (.int .u8) (.int .i64))))))]])), (325153619316441061734243466477596, (.carry [.mix 5 [(.dat (.int .u8)), (.dat (.int .i64)), (.dat (.int .i64)), (.dat (.int .i64)), (.dat (.int .i64)), (.dat (.int .i64)), (.dat (.int .i64)), (.dat (.int .i64)), (.dat (.int .i64)), (.dat (.int .i64)), (.dat (.int .i64)), (.dat (.int .i64)), (.dat (.int .i64)), (.dat (.int .i64)), (.dat (.int .i64)), (.dat (.int .i64)), (.dat (.int .i64)), (.dat (.int .i64)), (.own 10000003 55 (.pair (.int .i64) (.pair (.int .u8) (.pair (.int .i64) (.pair (.int .u8) (.int .i64))))))], .dead 10000006])), (18049651735527445, (.carry [.tmp 0 false [(.dat (.int .i64))]])), (166478653090017823607932654836529153, (.carry [.mix 5 [(.dat (.int .u8)), (.dat (.int .i64)), (.dat (.int .i64)), (.dat (.int .i64)), (.dat (.int .i64)), (.dat (.int .i64)), (.dat (.int .i64)), (.dat (.int .i64)), (.dat (.int .i64)), (.dat (.int .i64)), (.dat (.int .i64)), (.dat (.int .i64)), (.dat (.int .i64)), (.dat (.int .i64)), (.dat (.int .i64)), (.dat (.int .i64)), (.dat (.int .i64)), (.dat (.int .i64)), (.own 10000012 55 (.pair (.int .i64) (.pair (.int .u8) (.pair (.int .i64) (.pair (.int .u8) (.int .i64))))))], .dead 10000006])), (1535494553643717310216758358301645599088686186165961235, (.carry [.mix 5 [(.dat (.int .u8)), (.dat (.int .i64)), (.dat (.int .i64)), (.dat (.int .i64)), (.dat (.int .i64)), (.dat (.int .i64)), (.dat (.int .i64)), (.dat (.int .i64)), (.dat (.int .i64)), (.dat (.int .i64)), (.dat (.int .i64)), (.dat (.int .i64)), (.dat (.int .i64)), (.dat (.int .i64)), (.dat (.int .i64)), (.dat (.int .i64)), (.dat (.int .i64)), (.dat (.int .i64)), (.own 10000005 55 (.pair (.int .i64) (.pair (.int .u8) (.pair (.int .i64) (.pair (.int .u8) (.int .i64))))))], .dead 10000003])), (2422583247133750549807617, (.carry [.tmp 11 false [(.dat (.int .i64))]])), (22344386578242371764161483709167154187470854, (.carry [.tmp 4 false [(.dat (.int .i64))], .mix 5 [(.dat (.int .u8)), (.dat (.int .i64)), (.dat (.int .i64)), (.dat (.int .i64)), (.dat (.int .i64)), (.dat (.int .i64)), (.dat (.int .i64)), (.dat (.int .i64)), (.dat (.int .i64)), (.dat (.int .i64)), (.dat (.int .i64)), (.dat (.int .i64)), (.dat (.int .i64)), (.dat (.int .i64)), (.dat (.int .i64)), (.dat (.int .i64)), (.dat (.int .i64)), (.dat (.int .i64)), (.own 10000011 55 (.pair (.int .i64) (.pair (.int .u8) (.pair (.int .i64) (.pair (.int .u8) (.int .i64))))))], .dead 10000006])), (54025411715775557494784522813769465455150977623570605119382942386182, (.carry [.tmp 6 false [(.dat (.int .i64))], .mix 5 [(.dat (.int .u8)), (.dat (.int .i64)), (.dat (.int .i64)), (.dat (.int .i64)), (.dat (.int .i64)), (.dat (.int .i64)), (.dat (.int .i64)), (.dat (.int .i64)), (.dat (.int .i64)), (.dat (.int .i64)), (.dat (.int .i64)), (.dat (.int .i64)), (.dat (.int .i64)), (.dat (.int .i64)), (.dat (.int .i64)), (.dat (.int .i64)), (.dat (.int .i64)), (.dat (.int .i64)), (.own 10000004 55 (.pair (.int .i64) (.pair (.int .u8) (.pair (.int .i64) (.pair (.int .u8) (.int .i64))))))], .dead 10000003])), (5857446875166768303744347985464651485781426438657, (.carry [.tmp 5 false [(.dat (.int .i64))], .tmp 4 false [(.dat (.int .i64))]])), (325153619321154510913929056880646, (.carry [.tmp 12 false [(.dat (.int .i64))], .tmp 11 false [(.dat (.int .i64))]])), (5857446875166768303744347985455914467320359551489, (.carry [.tmp 6 false [(.dat (.int .i64))], .tmp 5 false [(.dat (.int .i64))], .mix 5 [(.dat (.int .u8)), (.dat (.int .i64)), (.dat (.int .i64)), (.dat (.int .i64)), (.dat (.int .i64)), (.dat (.int .i64)), (.dat (.int .i64)), (.dat (.int .i64)), (.dat (.int .i64)), (.dat (.int .i64)), (.dat (.int .i64)), (.dat (.int .i64)), (.dat (.int .i64)), (.dat (.int .i64)), (.dat (.int .i64)), (.dat (.int .i64)), (.dat (.int .i64)), (.dat (.int .i64)), (.own 10000008 55 (.pair (.int .i64) (.pair (.int .u8) (.pair (.int .i64) (.pair (.int .u8) (.int .i64))))))], .dead 10000011, .dead 10000006])), (402520684270378630569461903078626583927504568932116457849345, (.carry [.tmp 5 false [(.dat (.int .i64))]])), (2999012800085385371517106168557901560720090336592385, (.carry [])), (18049651735527449, (.carry [.tmp 0 false [(.dat .bool)]])), (786173211465583262830980279449269883966068907143819428353, (.carry [.tmp 6 false [(.dat (.int .i64))], .tmp 5 false [(.dat (.int .i64))]])), (2422583247133751086678037, (.carry [.tmp 0 false [(.dat (.int .i64))]])), (325153619321154582971457193902593, (.carry [.tmp 11 false [(.dat (.int .i64))]])), (105518382257374135732001021120486095084749397808286412915664488454, (.carry [.tmp 6 false [(.dat (.int .i64))], .tmp 5 false [(.dat (.int .i64))]])), (43641380036262270463216473414861351815174, (.carry [.tmp 12 false [(.dat (.int .i64))], .tmp 11 false [(.dat (.int .i64))]])), (7251168014755977084883350501617488864187920191076547540392119010438819349011, (.carry [.mix 5 [(.dat (.int .u8)), (.dat (.int .i64)), (.dat (.int .i64)), (.dat (.int .i64)), (.dat (.int .i64)), (.dat (.int .i64)), (.dat (.int .i64)), (.dat (.int .i64)), (.dat (.int .i64)), (.dat (.int .i64)), (.dat (.int .i64)), (.dat (.int .i64)), (.dat (.int .i64)), (.dat (.int .i64)), (.dat (.int .i64)), (.dat (.int .i64)), (.dat (.int .i64)), (.dat (.int .i64)), (.own 10000010 55 (.pair (.int .i64) (.pair (.int .u8) (.pair (.int .i64) (.pair (.int .u8) (.int .i64))))))], .dead 10000011])), (255127793509811544064814337059654121663130032692689655550553212239664019151702125357303814, (.carry [.tmp 6 false [(.dat (.int .i64))], .mix 5 [(.dat (.int .u8)), (.dat (.int .i64)), (.dat (.int .i64)), (.dat (.int .i64)), (.dat (.int .i64)), (.dat (.int .i64)), (.dat (.int .i64)), (.dat (.int .i64)), (.dat (.int .i64)), (.dat (.int .i64)), (.dat (.int .i64)), (.dat (.int .i64)), (.dat (.int .i64)), (.dat (.int .i64)), (.dat (.int .i64)), (.dat (.int .i64)), (.dat (.int .i64)), (.dat (.int .i64)), (.own 10000009 55 (.pair (.int .i64) (.pair (.int .u8) (.pair (.int .i64) (.pair (.int .u8) (.int .i64))))))], .dead 10000011]))]
noncomputable def dialtonelaw15_ServerAnswers : (List (Int × (Int × Int))) → Option Bool := fun a1 =>
 joinO (loopO (fun (v2, (v3, (v4, (v5, (v6, (v7, (v8, (v9, (v10, (v11, (v12, (v13, (v14, (v15, (v16, (v17, (v18, (v19, v20)))))))))))))))))) =>
 bif (decide (v2 < (14 : Int))) then
 bif (decide (((0 : Int) ≤ v2) ∧ (v2 < (14 : Int)))) then 
 bif (decide ((((Int.toNat v2) * 1) + 1) ≤ 15)) then 
 bindO (some (putL (v6 :: (v7 :: (v8 :: (v9 :: (v10 :: (v11 :: (v12 :: (v13 :: (v14 :: (v15 :: (v16 :: (v17 :: (v18 :: (v19 :: (v20 :: ([] : List Int)))))))))))))))) ((Int.toNat v2) * 1) ((-1 : Int) :: ([] : List Int)))) fun x21 =>
 some (Sum.inl ((Go.IntKind.wrap .i64 (v2 + (1 : Int))), (v3, (v4, (v5, ((List.getD x21 0 (0 : Int)), ((List.getD x21 1 (0 : Int)), ((List.getD x21 2 (0 : Int)), ((List.getD x21 3 (0 : Int)), ((List.getD x21 4 (0 : Int)), ((List.getD x21 5 (0 : Int)), ((List.getD x21 6 (0 : Int)), ((List.getD x21 7 (0 : Int)), ((List.getD x21 8 (0 : Int)), ((List.getD x21 9 (0 : Int)), ((List.getD x21 10 (0 : Int)), ((List.getD x21 11 (0 : Int)), ((List.getD x21 12 (0 : Int)), ((List.getD x21 13 (0 : Int)), (List.getD x21 14 (0 : Int)))))))))))))))))))))
 else none
 else none
 else
 outO (some (Sum.inl (v3, (v4, (v5, (v6, (v7, (v8, (v9, (v10, (v11, (v12, (v13, (v14, (v15, (v16, (v17, (v18, (v19, v20)))))))))))))))))))) ((0 : Int), ((0 : Int), ((0 : Int), ((0 : Int), ((0 : Int), ((0 : Int), ((0 : Int), ((0 : Int), ((0 : Int), ((0 : Int), ((0 : Int), ((0 : Int), ((0 : Int), ((0 : Int), ((0 : Int), ((0 : Int), ((0 : Int), ((0 : Int), (0 : Int)))))))))))))))))))) fun (v23, (v24, (v25, (v26, (v27, (v28, (v29, (v30, (v31, (v32, (v33, (v34, (v35, (v36, (v37, (v38, (v39, v40))))))))))))))))) =>
 bindO (server_Start ()) fun ((x42, (x43, x44)), x45) =>
 joinO (loopO (fun (v46, (v47, (v48, (v49, (v50, (v51, (v52, (v53, (v54, (v55, (v56, (v57, (v58, (v59, (v60, (v61, (v62, (v63, (v64, v65))))))))))))))))))) =>
 bif (decide (v46 < (((List.length x45) : Nat) : Int))) then
 bif (decide (((0 : Int) ≤ v46) ∧ (v46 < (((List.length x45) : Nat) : Int)))) then 
 bindO x45[(Int.toNat v46)]? fun x66 =>
 bif (decide ((List.length v65) ≤ (List.length v65))) then 
 bif (decide (((List.length ((List.take (List.length v65) v65) ++ ((v64, (x66.1, (x66.2.1, (x66.2.2.1, x66.2.2.2)))) :: ([] : List (Int × (Int × (Int × (Int × Int)))))))) * 40) ≤ 140737488355328)) then 
 bindO (some ((List.take (List.length v65) v65) ++ ((v64, (x66.1, (x66.2.1, (x66.2.2.1, x66.2.2.2)))) :: ([] : List (Int × (Int × (Int × (Int × Int)))))))) fun x67 =>
 bif (decide (((0 : Int) ≤ v46) ∧ (v46 < (((List.length x45) : Nat) : Int)))) then 
 bindO x45[(Int.toNat v46)]? fun x68 =>
 bif (decide (x68.1 = (4 : Int))) then
 bif (decide (((0 : Int) ≤ v46) ∧ (v46 < (((List.length x45) : Nat) : Int)))) then 
 bindO x45[(Int.toNat v46)]? fun x69 =>
 bif (decide (x69.2.2.1 < (14 : Int))) then
 bif (decide (((0 : Int) ≤ v46) ∧ (v46 < (((List.length x45) : Nat) : Int)))) then 
 bindO x45[(Int.toNat v46)]? fun x70 =>
 bif (decide (((0 : Int) ≤ v46) ∧ (v46 < (((List.length x45) : Nat) : Int)))) then 
 bindO x45[(Int.toNat v46)]? fun x71 =>
 bif (decide (((0 : Int) ≤ x70.2.2.1) ∧ (x70.2.2.1 < (14 : Int)))) then 
 bif (decide ((((Int.toNat x70.2.2.1) * 1) + 1) ≤ 15)) then 
 bindO (some (putL (v50 :: (v51 :: (v52 :: (v53 :: (v54 :: (v55 :: (v56 :: (v57 :: (v58 :: (v59 :: (v60 :: (v61 :: (v62 :: (v63 :: (v64 :: ([] : List Int)))))))))))))))) ((Int.toNat x70.2.2.1) * 1) ((Go.IntKind.wrap .i64 (v64 + (maxA (1 : Int) x71.2.2.2))) :: ([] : List Int)))) fun x73 =>
 bif (decide ((List.length x67) ≤ (List.length x67))) then 
 some (Sum.inl ((Go.IntKind.wrap .i64 (v46 + (1 : Int))), (v47, (v48, (v49, ((List.getD x73 0 (0 : Int)), ((List.getD x73 1 (0 : Int)), ((List.getD x73 2 (0 : Int)), ((List.getD x73 3 (0 : Int)), ((List.getD x73 4 (0 : Int)), ((List.getD x73 5 (0 : Int)), ((List.getD x73 6 (0 : Int)), ((List.getD x73 7 (0 : Int)), ((List.getD x73 8 (0 : Int)), ((List.getD x73 9 (0 : Int)), ((List.getD x73 10 (0 : Int)), ((List.getD x73 11 (0 : Int)), ((List.getD x73 12 (0 : Int)), ((List.getD x73 13 (0 : Int)), ((List.getD x73 14 (0 : Int)), (List.take (List.length x67) x67)))))))))))))))))))))
 else none
 else none
 else none
 else none
 else none
 else
 bif (decide ((List.length x67) ≤ (List.length x67))) then 
 some (Sum.inl ((Go.IntKind.wrap .i64 (v46 + (1 : Int))), (v47, (v48, (v49, (v50, (v51, (v52, (v53, (v54, (v55, (v56, (v57, (v58, (v59, (v60, (v61, (v62, (v63, (v64, (List.take (List.length x67) x67)))))))))))))))))))))
 else none
 else none
 else
 bif (decide ((List.length x67) ≤ (List.length x67))) then 
 some (Sum.inl ((Go.IntKind.wrap .i64 (v46 + (1 : Int))), (v47, (v48, (v49, (v50, (v51, (v52, (v53, (v54, (v55, (v56, (v57, (v58, (v59, (v60, (v61, (v62, (v63, (v64, (List.take (List.length x67) x67)))))))))))))))))))))
 else none
 else none
 else none
 else none
 else none
 else
 outO (bif (decide ((List.length v65) ≤ (List.length v65))) then 
 some (Sum.inl (v47, (v48, (v49, (v50, (v51, (v52, (v53, (v54, (v55, (v56, (v57, (v58, (v59, (v60, (v61, (v62, (v63, (v64, (List.take (List.length v65) v65))))))))))))))))))))
 else none)) ((0 : Int), (x42, (x43, (x44, (v26, (v27, (v28, (v29, (v30, (v31, (v32, (v33, (v34, (v35, (v36, (v37, (v38, (v39, (v40, ([] : List (Int × (Int × (Int × (Int × Int))))))))))))))))))))))))) fun (v77, (v78, (v79, (v80, (v81, (v82, (v83, (v84, (v85, (v86, (v87, (v88, (v89, (v90, (v91, (v92, (v93, (v94, v95)))))))))))))))))) =>
 joinO (bif (decide ((List.length v95) ≤ (List.length v95))) then 
 loopO (fun (v96, (v97, (v98, (v99, (v100, (v101, (v102, (v103, (v104, (v105, (v106, (v107, (v108, (v109, (v110, (v111, (v112, (v113, (v114, (v115, (v116, v117))))))))))))))))))))) =>
 bif (decide (v96 < (((List.length a1) : Nat) : Int))) then
 bif (decide (v96 < (40 : Int))) then
 bif (decide (((0 : Int) ≤ v96) ∧ (v96 < (((List.length a1) : Nat) : Int)))) then 
 bindO a1[(Int.toNat v96)]? fun x118 =>
 bindO (some (Go.IntKind.wrap .i64 (v116 + (Go.IntKind.wrap .i64 x118.1)))) fun x120 =>
 joinO (joinO (bif (decide ((List.length v117) ≤ (List.length v117))) then 
 loopO (fun (v121, (v122, (v123, (v124, (v125, (v126, (v127, (v128, (v129, (v130, (v131, (v132, (v133, (v134, (v135, (v136, (v137, (v138, (v139, v140))))))))))))))))))) =>
 bif (decide (v121 < (200 : Int))) then
 joinO (joinO (loopO (fun (v141, v142) =>
 bif (decide (v141 < (14 : Int))) then
 bif (decide (((0 : Int) ≤ v141) ∧ (v141 < (14 : Int)))) then 
 bindO (v125 :: (v126 :: (v127 :: (v128 :: (v129 :: (v130 :: (v131 :: (v132 :: (v133 :: (v134 :: (v135 :: (v136 :: (v137 :: (v138 :: (v139 :: ([] : List Int))))))))))))))))[(Int.toNat v141)]? fun x143 =>
 bif (decide (x143 ≥ (0 : Int))) then
 bif (decide (((0 : Int) ≤ v141) ∧ (v141 < (14 : Int)))) then 
 bindO (v125 :: (v126 :: (v127 :: (v128 :: (v129 :: (v130 :: (v131 :: (v132 :: (v133 :: (v134 :: (v135 :: (v136 :: (v137 :: (v138 :: (v139 :: ([] : List Int))))))))))))))))[(Int.toNat v141)]? fun x144 =>
 bif (decide (x144 ≤ x120)) then
 bif (decide (v142 < (0 : Int))) then
 some (Sum.inl ((Go.IntKind.wrap .i64 (v141 + (1 : Int))), v141))
 else
 bif (decide (((0 : Int) ≤ v141) ∧ (v141 < (14 : Int)))) then 
 bindO (v125 :: (v126 :: (v127 :: (v128 :: (v129 :: (v130 :: (v131 :: (v132 :: (v133 :: (v134 :: (v135 :: (v136 :: (v137 :: (v138 :: (v139 :: ([] : List Int))))))))))))))))[(Int.toNat v141)]? fun x146 =>
 bif (decide (((0 : Int) ≤ v142) ∧ (v142 < (14 : Int)))) then 
 bindO (v125 :: (v126 :: (v127 :: (v128 :: (v129 :: (v130 :: (v131 :: (v132 :: (v133 :: (v134 :: (v135 :: (v136 :: (v137 :: (v138 :: (v139 :: ([] : List Int))))))))))))))))[(Int.toNat v142)]? fun x147 =>
 bif (decide (x146 < x147)) then
 some (Sum.inl ((Go.IntKind.wrap .i64 (v141 + (1 : Int))), v141))
 else
 some (Sum.inl ((Go.IntKind.wrap .i64 (v141 + (1 : Int))), v142))
 else none
 else none
 else
 some (Sum.inl ((Go.IntKind.wrap .i64 (v141 + (1 : Int))), v142))
 else none
 else
 some (Sum.inl ((Go.IntKind.wrap .i64 (v141 + (1 : Int))), v142))
 else none
 else
 outO (some (Sum.inl (v141, v142)))) ((0 : Int), (-1 : Int))) fun (v152, v153) =>
 bif (decide (v153 < (0 : Int))) then
 outO (outO (bif (decide ((List.length v140) ≤ (List.length v140))) then 
 some (Sum.inl (v122, (v123, (v124, (v125, (v126, (v127, (v128, (v129, (v130, (v131, (v132, (v133, (v134, (v135, (v136, (v137, (v138, (v139, (List.take (List.length v140) v140))))))))))))))))))))
 else none))
 else
 bif (decide (((0 : Int) ≤ v153) ∧ (v153 < (14 : Int)))) then 
 bindO (v125 :: (v126 :: (v127 :: (v128 :: (v129 :: (v130 :: (v131 :: (v132 :: (v133 :: (v134 :: (v135 :: (v136 :: (v137 :: (v138 :: (v139 :: ([] : List Int))))))))))))))))[(Int.toNat v153)]? fun x154 =>
 bif (decide (((0 : Int) ≤ v153) ∧ (v153 < (14 : Int)))) then 
 bif (decide ((((Int.toNat v153) * 1) + 1) ≤ 15)) then 
 bindO (some (putL (v125 :: (v126 :: (v127 :: (v128 :: (v129 :: (v130 :: (v131 :: (v132 :: (v133 :: (v134 :: (v135 :: (v136 :: (v137 :: (v138 :: (x154 :: ([] : List Int)))))))))))))))) ((Int.toNat v153) * 1) ((-1 : Int) :: ([] : List Int)))) fun x155 =>
 bindO (server_Step ((v122, (v123, v124)), ((5 : Int), ((0 : Int), (Go.IntKind.wrap .u8 v153))))) fun ((x158, (x159, x160)), x161) =>
 joinO (bif (decide ((List.length v140) ≤ (List.length v140))) then 
 loopO (fun (v162, (v163, (v164, (v165, (v166, (v167, (v168, (v169, (v170, (v171, (v172, (v173, (v174, (v175, (v176, (v177, (v178, (v179, (v180, v181))))))))))))))))))) =>
 bif (decide (v162 < (((List.length x161) : Nat) : Int))) then
 bif (decide (((0 : Int) ≤ v162) ∧ (v162 < (((List.length x161) : Nat) : Int)))) then 
 bindO x161[(Int.toNat v162)]? fun x182 =>
 bif (decide ((List.length v181) ≤ (List.length v181))) then 
 bif (decide (((List.length ((List.take (List.length v181) v181) ++ ((v180, (x182.1, (x182.2.1, (x182.2.2.1, x182.2.2.2)))) :: ([] : List (Int × (Int × (Int × (Int × Int)))))))) * 40) ≤ 140737488355328)) then 
 bindO (some ((List.take (List.length v181) v181) ++ ((v180, (x182.1, (x182.2.1, (x182.2.2.1, x182.2.2.2)))) :: ([] : List (Int × (Int × (Int × (Int × Int)))))))) fun x183 =>
 bif (decide (((0 : Int) ≤ v162) ∧ (v162 < (((List.length x161) : Nat) : Int)))) then 
 bindO x161[(Int.toNat v162)]? fun x184 =>
 bif (decide (x184.1 = (4 : Int))) then
 bif (decide (((0 : Int) ≤ v162) ∧ (v162 < (((List.length x161) : Nat) : Int)))) then 
 bindO x161[(Int.toNat v162)]? fun x185 =>
 bif (decide (x185.2.2.1 < (14 : Int))) then
 bif (decide (((0 : Int) ≤ v162) ∧ (v162 < (((List.length x161) : Nat) : Int)))) then 
 bindO x161[(Int.toNat v162)]? fun x186 =>
 bif (decide (((0 : Int) ≤ v162) ∧ (v162 < (((List.length x161) : Nat) : Int)))) then 
 bindO x161[(Int.toNat v162)]? fun x187 =>
 bif (decide (((0 : Int) ≤ x186.2.2.1) ∧ (x186.2.2.1 < (14 : Int)))) then 
 bif (decide ((((Int.toNat x186.2.2.1) * 1) + 1) ≤ 15)) then 
 bindO (some (putL (v166 :: (v167 :: (v168 :: (v169 :: (v170 :: (v171 :: (v172 :: (v173 :: (v174 :: (v175 :: (v176 :: (v177 :: (v178 :: (v179 :: (v180 :: ([] : List Int)))))))))))))))) ((Int.toNat x186.2.2.1) * 1) ((Go.IntKind.wrap .i64 (v180 + (maxA (1 : Int) x187.2.2.2))) :: ([] : List Int)))) fun x189 =>
 bif (decide ((List.length x183) ≤ (List.length x183))) then 
 some (Sum.inl ((Go.IntKind.wrap .i64 (v162 + (1 : Int))), (v163, (v164, (v165, ((List.getD x189 0 (0 : Int)), ((List.getD x189 1 (0 : Int)), ((List.getD x189 2 (0 : Int)), ((List.getD x189 3 (0 : Int)), ((List.getD x189 4 (0 : Int)), ((List.getD x189 5 (0 : Int)), ((List.getD x189 6 (0 : Int)), ((List.getD x189 7 (0 : Int)), ((List.getD x189 8 (0 : Int)), ((List.getD x189 9 (0 : Int)), ((List.getD x189 10 (0 : Int)), ((List.getD x189 11 (0 : Int)), ((List.getD x189 12 (0 : Int)), ((List.getD x189 13 (0 : Int)), ((List.getD x189 14 (0 : Int)), (List.take (List.length x183) x183)))))))))))))))))))))
 else none
 else none
 else none
 else none
 else none
 else
 bif (decide ((List.length x183) ≤ (List.length x183))) then 
 some (Sum.inl ((Go.IntKind.wrap .i64 (v162 + (1 : Int))), (v163, (v164, (v165, (v166, (v167, (v168, (v169, (v170, (v171, (v172, (v173, (v174, (v175, (v176, (v177, (v178, (v179, (v180, (List.take (List.length x183) x183)))))))))))))))))))))
 else none
 else none
 else
 bif (decide ((List.length x183) ≤ (List.length x183))) then 
 some (Sum.inl ((Go.IntKind.wrap .i64 (v162 + (1 : Int))), (v163, (v164, (v165, (v166, (v167, (v168, (v169, (v170, (v171, (v172, (v173, (v174, (v175, (v176, (v177, (v178, (v179, (v180, (List.take (List.length x183) x183)))))))))))))))))))))
 else none
 else none
 else none
 else none
 else none
 else
 outO (bif (decide ((List.length v181) ≤ (List.length v181))) then 
 some (Sum.inl (v163, (v164, (v165, (v166, (v167, (v168, (v169, (v170, (v171, (v172, (v173, (v174, (v175, (v176, (v177, (v178, (v179, (v180, (List.take (List.length v181) v181))))))))))))))))))))
 else none)) ((0 : Int), (x158, (x159, (x160, ((List.getD x155 0 (0 : Int)), ((List.getD x155 1 (0 : Int)), ((List.getD x155 2 (0 : Int)), ((List.getD x155 3 (0 : Int)), ((List.getD x155 4 (0 : Int)), ((List.getD x155 5 (0 : Int)), ((List.getD x155 6 (0 : Int)), ((List.getD x155 7 (0 : Int)), ((List.getD x155 8 (0 : Int)), ((List.getD x155 9 (0 : Int)), ((List.getD x155 10 (0 : Int)), ((List.getD x155 11 (0 : Int)), ((List.getD x155 12 (0 : Int)), ((List.getD x155 13 (0 : Int)), ((List.getD x155 14 (0 : Int)), (List.take (List.length v140) v140))))))))))))))))))))
 else none) fun (v193, (v194, (v195, (v196, (v197, (v198, (v199, (v200, (v201, (v202, (v203, (v204, (v205, (v206, (v207, (v208, (v209, (v210, v211)))))))))))))))))) =>
 bif (decide ((List.length v211) ≤ (List.length v211))) then 
 some (Sum.inl (v152, (v153, (v193, (v194, (v195, (v196, (v197, (v198, (v199, (v200, (v201, (v202, (v203, (v204, (v205, (v206, (v207, (v208, (v209, (v210, (List.take (List.length v211) v211))))))))))))))))))))))
 else none
 else none
 else none
 else none) fun (v212, (v213, (v214, (v215, (v216, (v217, (v218, (v219, (v220, (v221, (v222, (v223, (v224, (v225, (v226, (v227, (v228, (v229, (v230, (v231, v232)))))))))))))))))))) =>
 bif (decide ((List.length v232) ≤ (List.length v232))) then 
 some (Sum.inl ((Go.IntKind.wrap .i64 (v121 + (1 : Int))), (v214, (v215, (v216, (v217, (v218, (v219, (v220, (v221, (v222, (v223, (v224, (v225, (v226, (v227, (v228, (v229, (v230, (v231, (List.take (List.length v232) v232)))))))))))))))))))))
 else none
 else
 outO (bif (decide ((List.length v140) ≤ (List.length v140))) then 
 some (Sum.inl (v122, (v123, (v124, (v125, (v126, (v127, (v128, (v129, (v130, (v131, (v132, (v133, (v134, (v135, (v136, (v137, (v138, (v139, (List.take (List.length v140) v140))))))))))))))))))))
 else none)) ((0 : Int), (v99, (v100, (v101, (v102, (v103, (v104, (v105, (v106, (v107, (v108, (v109, (v110, (v111, (v112, (v113, (v114, (v115, (v116, (List.take (List.length v117) v117))))))))))))))))))))
 else none) fun (v234, (v235, (v236, (v237, (v238, (v239, (v240, (v241, (v242, (v243, (v244, (v245, (v246, (v247, (v248, (v249, (v250, (v251, v252)))))))))))))))))) =>
 bif (decide ((List.length v252) ≤ (List.length v252))) then 
 some (Sum.inl (v234, (v235, (v236, (v237, (v238, (v239, (v240, (v241, (v242, (v243, (v244, (v245, (v246, (v247, (v248, (v249, (v250, ((maxA v251 x120), (List.take (List.length v252) v252))))))))))))))))))))
 else none) fun (v253, (v254, (v255, (v256, (v257, (v258, (v259, (v260, (v261, (v262, (v263, (v264, (v265, (v266, (v267, (v268, (v269, (v270, v271)))))))))))))))))) =>
 bif (decide (v97 ≥ (0 : Int))) then
 bif (decide (((0 : Int) ≤ v96) ∧ (v96 < (((List.length a1) : Nat) : Int)))) then 
 bindO a1[(Int.toNat v96)]? fun x272 =>
 bindO (some (Int.tmod x272.2.1 (2 : Int))) fun x273 =>
 bif (decide (((0 : Int) ≤ x273) ∧ (x273 < (2 : Int)))) then 
 bif (decide (((0 : Int) ≤ v96) ∧ (v96 < (((List.length a1) : Nat) : Int)))) then 
 bindO a1[(Int.toNat v96)]? fun x274 =>
 bindO (some (Go.IntKind.wrap .i64 ((100 : Int) + (Go.IntKind.wrap .i64 (Int.tmod (Go.IntKind.wrap .u64 x274.2.2) (600 : Int)))))) fun x278 =>
 bindO (server_Step ((v253, (v254, v255)), ((List.getD ((1 : Int) :: ((4 : Int) :: ([] : List Int))) (Int.toNat x273) (0 : Int)), (x278, (0 : Int))))) fun ((x280, (x281, x282)), x283) =>
 joinO (bif (decide ((List.length v271) ≤ (List.length v271))) then 
 loopO (fun (v284, (v285, (v286, (v287, (v288, (v289, (v290, (v291, (v292, (v293, (v294, (v295, (v296, (v297, (v298, (v299, (v300, (v301, (v302, v303))))))))))))))))))) =>
 bif (decide (v284 < (((List.length x283) : Nat) : Int))) then
 bif (decide (((0 : Int) ≤ v284) ∧ (v284 < (((List.length x283) : Nat) : Int)))) then 
 bindO x283[(Int.toNat v284)]? fun x304 =>
 bif (decide ((List.length v303) ≤ (List.length v303))) then 
 bif (decide (((List.length ((List.take (List.length v303) v303) ++ ((v302, (x304.1, (x304.2.1, (x304.2.2.1, x304.2.2.2)))) :: ([] : List (Int × (Int × (Int × (Int × Int)))))))) * 40) ≤ 140737488355328)) then 
 bindO (some ((List.take (List.length v303) v303) ++ ((v302, (x304.1, (x304.2.1, (x304.2.2.1, x304.2.2.2)))) :: ([] : List (Int × (Int × (Int × (Int × Int)))))))) fun x305 =>
 bif (decide (((0 : Int) ≤ v284) ∧ (v284 < (((List.length x283) : Nat) : Int)))) then 
 bindO x283[(Int.toNat v284)]? fun x306 =>
 bif (decide (x306.1 = (4 : Int))) then
 bif (decide (((0 : Int) ≤ v284) ∧ (v284 < (((List.length x283) : Nat) : Int)))) then 
 bindO x283[(Int.toNat v284)]? fun x307 =>
 bif (decide (x307.2.2.1 < (14 : Int))) then
 bif (decide (((0 : Int) ≤ v284) ∧ (v284 < (((List.length x283) : Nat) : Int)))) then 
 bindO x283[(Int.toNat v284)]? fun x308 =>
 bif (decide (((0 : Int) ≤ v284) ∧ (v284 < (((List.length x283) : Nat) : Int)))) then 
 bindO x283[(Int.toNat v284)]? fun x309 =>
 bif (decide (((0 : Int) ≤ x308.2.2.1) ∧ (x308.2.2.1 < (14 : Int)))) then 
 bif (decide ((((Int.toNat x308.2.2.1) * 1) + 1) ≤ 15)) then 
 bindO (some (putL (v288 :: (v289 :: (v290 :: (v291 :: (v292 :: (v293 :: (v294 :: (v295 :: (v296 :: (v297 :: (v298 :: (v299 :: (v300 :: (v301 :: (v302 :: ([] : List Int)))))))))))))))) ((Int.toNat x308.2.2.1) * 1) ((Go.IntKind.wrap .i64 (v302 + (maxA (1 : Int) x309.2.2.2))) :: ([] : List Int)))) fun x311 =>
 bif (decide ((List.length x305) ≤ (List.length x305))) then 
 some (Sum.inl ((Go.IntKind.wrap .i64 (v284 + (1 : Int))), (v285, (v286, (v287, ((List.getD x311 0 (0 : Int)), ((List.getD x311 1 (0 : Int)), ((List.getD x311 2 (0 : Int)), ((List.getD x311 3 (0 : Int)), ((List.getD x311 4 (0 : Int)), ((List.getD x311 5 (0 : Int)), ((List.getD x311 6 (0 : Int)), ((List.getD x311 7 (0 : Int)), ((List.getD x311 8 (0 : Int)), ((List.getD x311 9 (0 : Int)), ((List.getD x311 10 (0 : Int)), ((List.getD x311 11 (0 : Int)), ((List.getD x311 12 (0 : Int)), ((List.getD x311 13 (0 : Int)), ((List.getD x311 14 (0 : Int)), (List.take (List.length x305) x305)))))))))))))))))))))
 else none
 else none
 else none
 else none
 else none
 else
 bif (decide ((List.length x305) ≤ (List.length x305))) then 
 some (Sum.inl ((Go.IntKind.wrap .i64 (v284 + (1 : Int))), (v285, (v286, (v287, (v288, (v289, (v290, (v291, (v292, (v293, (v294, (v295, (v296, (v297, (v298, (v299, (v300, (v301, (v302, (List.take (List.length x305) x305)))))))))))))))))))))
 else none
 else none
 else
 bif (decide ((List.length x305) ≤ (List.length x305))) then 
 some (Sum.inl ((Go.IntKind.wrap .i64 (v284 + (1 : Int))), (v285, (v286, (v287, (v288, (v289, (v290, (v291, (v292, (v293, (v294, (v295, (v296, (v297, (v298, (v299, (v300, (v301, (v302, (List.take (List.length x305) x305)))))))))))))))))))))
 else none
 else none
 else none
 else none
 else none
 else
 outO (bif (decide ((List.length v303) ≤ (List.length v303))) then 
 some (Sum.inl (v285, (v286, (v287, (v288, (v289, (v290, (v291, (v292, (v293, (v294, (v295, (v296, (v297, (v298, (v299, (v300, (v301, (v302, (List.take (List.length v303) v303))))))))))))))))))))
 else none)) ((0 : Int), (x280, (x281, (x282, (v256, (v257, (v258, (v259, (v260, (v261, (v262, (v263, (v264, (v265, (v266, (v267, (v268, (v269, (v270, (List.take (List.length v271) v271))))))))))))))))))))
 else none) fun (v315, (v316, (v317, (v318, (v319, (v320, (v321, (v322, (v323, (v324, (v325, (v326, (v327, (v328, (v329, (v330, (v331, (v332, v333)))))))))))))))))) =>
 bif (decide (((0 : Int) ≤ (minA (((List.length v271) : Nat) : Int) (((List.length v333) : Nat) : Int))) ∧ ((minA (((List.length v271) : Nat) : Int) (((List.length v333) : Nat) : Int)) ≤ (((List.length v333) : Nat) : Int)))) then 
 joinO (bif (decide ((List.getD ((1 : Int) :: ((4 : Int) :: ([] : List Int))) (Int.toNat x273) (0 : Int)) = (4 : Int))) then
 bif (decide (v97 < (0 : Int))) then
 joinO (bif (decide (x278 ≥ (200 : Int))) then
 some (Sum.inl (Go.IntKind.wrap .i64 (v332 + (32000 : Int))))
 else
 some (Sum.inl v97)) fun v335 =>
 bif (decide (((((List.length v333) - (Int.toNat (minA (((List.length v271) : Nat) : Int) (((List.length v333) : Nat) : Int)))) : Nat) : Int) < (1 : Int))) then
 outO (outO (outO (some Bool.false)))
 else
 bif (decide (((0 : Int) ≤ (0 : Int)) ∧ ((0 : Int) < ((((List.length v333) - (Int.toNat (minA (((List.length v271) : Nat) : Int) (((List.length v333) : Nat) : Int)))) : Nat) : Int)))) then 
 bindO v333[((Int.toNat (minA (((List.length v271) : Nat) : Int) (((List.length v333) : Nat) : Int))) + 0)]? fun x336 =>
 bif (!((decide (x336.2.1 = (1 : Int))) && ((decide (x336.2.2.1 = x278)) && ((decide (x336.2.2.2.1 = (0 : Int))) && (decide (x336.2.2.2.2 = (0 : Int))))))) then
 outO (outO (outO (some Bool.false)))
 else
 some (Sum.inl (v335, x278))
 else none
 else
 bif (decide ((List.getD ((1 : Int) :: ((4 : Int) :: ([] : List Int))) (Int.toNat x273) (0 : Int)) = (4 : Int))) then
 bif (decide (((((List.length v333) - (Int.toNat (minA (((List.length v271) : Nat) : Int) (((List.length v333) : Nat) : Int)))) : Nat) : Int) ≠ (0 : Int))) then
 outO (outO (outO (some Bool.false)))
 else
 some (Sum.inl (v97, v98))
 else
 some (Sum.inl (v97, v98))
 else
 bif (decide ((List.getD ((1 : Int) :: ((4 : Int) :: ([] : List Int))) (Int.toNat x273) (0 : Int)) = (4 : Int))) then
 bif (decide (((((List.length v333) - (Int.toNat (minA (((List.length v271) : Nat) : Int) (((List.length v333) : Nat) : Int)))) : Nat) : Int) ≠ (0 : Int))) then
 outO (outO (outO (some Bool.false)))
 else
 some (Sum.inl (v97, v98))
 else
 some (Sum.inl (v97, v98))) fun (v337, v338) =>
 joinO (bif (decide ((List.getD ((1 : Int) :: ((4 : Int) :: ([] : List Int))) (Int.toNat x273) (0 : Int)) = (1 : Int))) then
 bif (decide (v338 = (0 : Int))) then
 bif (decide (((((List.length v333) - (Int.toNat (minA (((List.length v271) : Nat) : Int) (((List.length v333) : Nat) : Int)))) : Nat) : Int) ≠ (0 : Int))) then
 outO (outO (outO (some Bool.false)))
 else
 bif (decide ((List.getD ((1 : Int) :: ((4 : Int) :: ([] : List Int))) (Int.toNat x273) (0 : Int)) = (1 : Int))) then
 bif (decide (v338 ≠ (0 : Int))) then
 bif (!(decide (v270 ≥ v97))) then
 bif (decide (((((List.length v333) - (Int.toNat (minA (((List.length v271) : Nat) : Int) (((List.length v333) : Nat) : Int)))) : Nat) : Int) ≠ (1 : Int))) then
 outO (outO (outO (some Bool.false)))
 else
 bif (decide (((0 : Int) ≤ (0 : Int)) ∧ ((0 : Int) < ((((List.length v333) - (Int.toNat (minA (((List.length v271) : Nat) : Int) (((List.length v333) : Nat) : Int)))) : Nat) : Int)))) then 
 bindO v333[((Int.toNat (minA (((List.length v271) : Nat) : Int) (((List.length v333) : Nat) : Int))) + 0)]? fun x339 =>
 bif (!((decide (x339.2.1 = (1 : Int))) && ((decide (x339.2.2.1 = v338)) && ((decide (x339.2.2.2.1 = (0 : Int))) && (decide (x339.2.2.2.2 = (0 : Int))))))) then
 outO (outO (outO (some Bool.false)))
 else
 some (Sum.inl ())
 else none
 else
 some (Sum.inl ())
 else
 some (Sum.inl ())
 else
 some (Sum.inl ())
 else
 bif (decide (v270 ≥ v97)) then
 bif (decide (((((List.length v333) - (Int.toNat (minA (((List.length v271) : Nat) : Int) (((List.length v333) : Nat) : Int)))) : Nat) : Int) ≠ (0 : Int))) then
 outO (outO (outO (some Bool.false)))
 else
 bif (decide ((List.getD ((1 : Int) :: ((4 : Int) :: ([] : List Int))) (Int.toNat x273) (0 : Int)) = (1 : Int))) then
 bif (decide (v338 ≠ (0 : Int))) then
 bif (!(decide (v270 ≥ v97))) then
 bif (decide (((((List.length v333) - (Int.toNat (minA (((List.length v271) : Nat) : Int) (((List.length v333) : Nat) : Int)))) : Nat) : Int) ≠ (1 : Int))) then
 outO (outO (outO (some Bool.false)))
 else
 bif (decide (((0 : Int) ≤ (0 : Int)) ∧ ((0 : Int) < ((((List.length v333) - (Int.toNat (minA (((List.length v271) : Nat) : Int) (((List.length v333) : Nat) : Int)))) : Nat) : Int)))) then 
 bindO v333[((Int.toNat (minA (((List.length v271) : Nat) : Int) (((List.length v333) : Nat) : Int))) + 0)]? fun x340 =>
 bif (!((decide (x340.2.1 = (1 : Int))) && ((decide (x340.2.2.1 = v338)) && ((decide (x340.2.2.2.1 = (0 : Int))) && (decide (x340.2.2.2.2 = (0 : Int))))))) then
 outO (outO (outO (some Bool.false)))
 else
 some (Sum.inl ())
 else none
 else
 some (Sum.inl ())
 else
 some (Sum.inl ())
 else
 some (Sum.inl ())
 else
 bif (decide ((List.getD ((1 : Int) :: ((4 : Int) :: ([] : List Int))) (Int.toNat x273) (0 : Int)) = (1 : Int))) then
 bif (decide (v338 ≠ (0 : Int))) then
 bif (!(decide (v270 ≥ v97))) then
 bif (decide (((((List.length v333) - (Int.toNat (minA (((List.length v271) : Nat) : Int) (((List.length v333) : Nat) : Int)))) : Nat) : Int) ≠ (1 : Int))) then
 outO (outO (outO (some Bool.false)))
 else
 bif (decide (((0 : Int) ≤ (0 : Int)) ∧ ((0 : Int) < ((((List.length v333) - (Int.toNat (minA (((List.length v271) : Nat) : Int) (((List.length v333) : Nat) : Int)))) : Nat) : Int)))) then 
 bindO v333[((Int.toNat (minA (((List.length v271) : Nat) : Int) (((List.length v333) : Nat) : Int))) + 0)]? fun x341 =>
 bif (!((decide (x341.2.1 = (1 : Int))) && ((decide (x341.2.2.1 = v338)) && ((decide (x341.2.2.2.1 = (0 : Int))) && (decide (x341.2.2.2.2 = (0 : Int))))))) then
 outO (outO (outO (some Bool.false)))
 else
 some (Sum.inl ())
 else none
 else
 some (Sum.inl ())
 else
 some (Sum.inl ())
 else
 some (Sum.inl ())
 else
 bif (decide ((List.getD ((1 : Int) :: ((4 : Int) :: ([] : List Int))) (Int.toNat x273) (0 : Int)) = (1 : Int))) then
 bif (decide (v338 ≠ (0 : Int))) then
 bif (!(decide (v270 ≥ v97))) then
 bif (decide (((((List.length v333) - (Int.toNat (minA (((List.length v271) : Nat) : Int) (((List.length v333) : Nat) : Int)))) : Nat) : Int) ≠ (1 : Int))) then
 outO (outO (outO (some Bool.false)))
 else
 bif (decide (((0 : Int) ≤ (0 : Int)) ∧ ((0 : Int) < ((((List.length v333) - (Int.toNat (minA (((List.length v271) : Nat) : Int) (((List.length v333) : Nat) : Int)))) : Nat) : Int)))) then 
 bindO v333[((Int.toNat (minA (((List.length v271) : Nat) : Int) (((List.length v333) : Nat) : Int))) + 0)]? fun x342 =>
 bif (!((decide (x342.2.1 = (1 : Int))) && ((decide (x342.2.2.1 = v338)) && ((decide (x342.2.2.2.1 = (0 : Int))) && (decide (x342.2.2.2.2 = (0 : Int))))))) then
 outO (outO (outO (some Bool.false)))
 else
 some (Sum.inl ())
 else none
 else
 some (Sum.inl ())
 else
 some (Sum.inl ())
 else
 some (Sum.inl ())) fun _ =>
 bif (decide (v317 ≠ v338)) then
 outO (outO (some Bool.false))
 else
 bif ((decide (v315 = (7 : Int))) != (decide (v270 ≥ v97))) then
 outO (outO (some Bool.false))
 else
 bindO (server_May (v315, (v316, v317))) fun x343 =>
 bif (!x343) then
 outO (outO (some Bool.false))
 else
 bif (decide ((List.length v333) ≤ (List.length v333))) then 
 some (Sum.inl ((Go.IntKind.wrap .i64 (v96 + (1 : Int))), (v337, (v338, (v315, (v316, (v317, (v318, (v319, (v320, (v321, (v322, (v323, (v324, (v325, (v326, (v327, (v328, (v329, (v330, (v331, (v332, (List.take (List.length v333) v333)))))))))))))))))))))))
 else none
 else none
 else none
 else none
 else none
 else
 bif (decide (((0 : Int) ≤ v96) ∧ (v96 < (((List.length a1) : Nat) : Int)))) then 
 bindO a1[(Int.toNat v96)]? fun x345 =>
 bindO (some (Int.tmod x345.2.1 (2 : Int))) fun x346 =>
 bif (decide (((0 : Int) ≤ x346) ∧ (x346 < (2 : Int)))) then 
 bif (decide (((0 : Int) ≤ v96) ∧ (v96 < (((List.length a1) : Nat) : Int)))) then 
 bindO a1[(Int.toNat v96)]? fun x347 =>
 bindO (some (Go.IntKind.wrap .i64 ((100 : Int) + (Go.IntKind.wrap .i64 (Int.tmod (Go.IntKind.wrap .u64 x347.2.2) (600 : Int)))))) fun x351 =>
 bindO (server_Step ((v253, (v254, v255)), ((List.getD ((1 : Int) :: ((4 : Int) :: ([] : List Int))) (Int.toNat x346) (0 : Int)), (x351, (0 : Int))))) fun ((x353, (x354, x355)), x356) =>
 joinO (bif (decide ((List.length v271) ≤ (List.length v271))) then 
 loopO (fun (v357, (v358, (v359, (v360, (v361, (v362, (v363, (v364, (v365, (v366, (v367, (v368, (v369, (v370, (v371, (v372, (v373, (v374, (v375, v376))))))))))))))))))) =>
 bif (decide (v357 < (((List.length x356) : Nat) : Int))) then
 bif (decide (((0 : Int) ≤ v357) ∧ (v357 < (((List.length x356) : Nat) : Int)))) then 
 bindO x356[(Int.toNat v357)]? fun x377 =>
 bif (decide ((List.length v376) ≤ (List.length v376))) then 
 bif (decide (((List.length ((List.take (List.length v376) v376) ++ ((v375, (x377.1, (x377.2.1, (x377.2.2.1, x377.2.2.2)))) :: ([] : List (Int × (Int × (Int × (Int × Int)))))))) * 40) ≤ 140737488355328)) then 
 bindO (some ((List.take (List.length v376) v376) ++ ((v375, (x377.1, (x377.2.1, (x377.2.2.1, x377.2.2.2)))) :: ([] : List (Int × (Int × (Int × (Int × Int)))))))) fun x378 =>
 bif (decide (((0 : Int) ≤ v357) ∧ (v357 < (((List.length x356) : Nat) : Int)))) then 
 bindO x356[(Int.toNat v357)]? fun x379 =>
 bif (decide (x379.1 = (4 : Int))) then
 bif (decide (((0 : Int) ≤ v357) ∧ (v357 < (((List.length x356) : Nat) : Int)))) then 
 bindO x356[(Int.toNat v357)]? fun x380 =>
 bif (decide (x380.2.2.1 < (14 : Int))) then
 bif (decide (((0 : Int) ≤ v357) ∧ (v357 < (((List.length x356) : Nat) : Int)))) then 
 bindO x356[(Int.toNat v357)]? fun x381 =>
 bif (decide (((0 : Int) ≤ v357) ∧ (v357 < (((List.length x356) : Nat) : Int)))) then 
 bindO x356[(Int.toNat v357)]? fun x382 =>
 bif (decide (((0 : Int) ≤ x381.2.2.1) ∧ (x381.2.2.1 < (14 : Int)))) then 
 bif (decide ((((Int.toNat x381.2.2.1) * 1) + 1) ≤ 15)) then 
 bindO (some (putL (v361 :: (v362 :: (v363 :: (v364 :: (v365 :: (v366 :: (v367 :: (v368 :: (v369 :: (v370 :: (v371 :: (v372 :: (v373 :: (v374 :: (v375 :: ([] : List Int)))))))))))))))) ((Int.toNat x381.2.2.1) * 1) ((Go.IntKind.wrap .i64 (v375 + (maxA (1 : Int) x382.2.2.2))) :: ([] : List Int)))) fun x384 =>
 bif (decide ((List.length x378) ≤ (List.length x378))) then 
 some (Sum.inl ((Go.IntKind.wrap .i64 (v357 + (1 : Int))), (v358, (v359, (v360, ((List.getD x384 0 (0 : Int)), ((List.getD x384 1 (0 : Int)), ((List.getD x384 2 (0 : Int)), ((List.getD x384 3 (0 : Int)), ((List.getD x384 4 (0 : Int)), ((List.getD x384 5 (0 : Int)), ((List.getD x384 6 (0 : Int)), ((List.getD x384 7 (0 : Int)), ((List.getD x384 8 (0 : Int)), ((List.getD x384 9 (0 : Int)), ((List.getD x384 10 (0 : Int)), ((List.getD x384 11 (0 : Int)), ((List.getD x384 12 (0 : Int)), ((List.getD x384 13 (0 : Int)), ((List.getD x384 14 (0 : Int)), (List.take (List.length x378) x378)))))))))))))))))))))
 else none
 else none
 else none
 else none
 else none
 else
 bif (decide ((List.length x378) ≤ (List.length x378))) then 
 some (Sum.inl ((Go.IntKind.wrap .i64 (v357 + (1 : Int))), (v358, (v359, (v360, (v361, (v362, (v363, (v364, (v365, (v366, (v367, (v368, (v369, (v370, (v371, (v372, (v373, (v374, (v375, (List.take (List.length x378) x378)))))))))))))))))))))
 else none
 else none
 else
 bif (decide ((List.length x378) ≤ (List.length x378))) then 
 some (Sum.inl ((Go.IntKind.wrap .i64 (v357 + (1 : Int))), (v358, (v359, (v360, (v361, (v362, (v363, (v364, (v365, (v366, (v367, (v368, (v369, (v370, (v371, (v372, (v373, (v374, (v375, (List.take (List.length x378) x378)))))))))))))))))))))
 else none
 else none
 else none
 else none
 else none
 else
 outO (bif (decide ((List.length v376) ≤ (List.length v376))) then 
 some (Sum.inl (v358, (v359, (v360, (v361, (v362, (v363, (v364, (v365, (v366, (v367, (v368, (v369, (v370, (v371, (v372, (v373, (v374, (v375, (List.take (List.length v376) v376))))))))))))))))))))
 else none)) ((0 : Int), (x353, (x354, (x355, (v256, (v257, (v258, (v259, (v260, (v261, (v262, (v263, (v264, (v265, (v266, (v267, (v268, (v269, (v270, (List.take (List.length v271) v271))))))))))))))))))))
 else none) fun (v388, (v389, (v390, (v391, (v392, (v393, (v394, (v395, (v396, (v397, (v398, (v399, (v400, (v401, (v402, (v403, (v404, (v405, v406)))))))))))))))))) =>
 bif (decide (((0 : Int) ≤ (minA (((List.length v271) : Nat) : Int) (((List.length v406) : Nat) : Int))) ∧ ((minA (((List.length v271) : Nat) : Int) (((List.length v406) : Nat) : Int)) ≤ (((List.length v406) : Nat) : Int)))) then 
 joinO (bif (decide ((List.getD ((1 : Int) :: ((4 : Int) :: ([] : List Int))) (Int.toNat x346) (0 : Int)) = (4 : Int))) then
 bif (decide (v97 < (0 : Int))) then
 joinO (bif (decide (x351 ≥ (200 : Int))) then
 some (Sum.inl (Go.IntKind.wrap .i64 (v405 + (32000 : Int))))
 else
 some (Sum.inl v97)) fun v408 =>
 bif (decide (((((List.length v406) - (Int.toNat (minA (((List.length v271) : Nat) : Int) (((List.length v406) : Nat) : Int)))) : Nat) : Int) < (1 : Int))) then
 outO (outO (outO (some Bool.false)))
 else
 bif (decide (((0 : Int) ≤ (0 : Int)) ∧ ((0 : Int) < ((((List.length v406) - (Int.toNat (minA (((List.length v271) : Nat) : Int) (((List.length v406) : Nat) : Int)))) : Nat) : Int)))) then 
 bindO v406[((Int.toNat (minA (((List.length v271) : Nat) : Int) (((List.length v406) : Nat) : Int))) + 0)]? fun x409 =>
 bif (!((decide (x409.2.1 = (1 : Int))) && ((decide (x409.2.2.1 = x351)) && ((decide (x409.2.2.2.1 = (0 : Int))) && (decide (x409.2.2.2.2 = (0 : Int))))))) then
 outO (outO (outO (some Bool.false)))
 else
 some (Sum.inl (v408, x351))
 else none
 else
 bif (decide ((List.getD ((1 : Int) :: ((4 : Int) :: ([] : List Int))) (Int.toNat x346) (0 : Int)) = (4 : Int))) then
 bif (decide (((((List.length v406) - (Int.toNat (minA (((List.length v271) : Nat) : Int) (((List.length v406) : Nat) : Int)))) : Nat) : Int) ≠ (0 : Int))) then
 outO (outO (outO (some Bool.false)))
 else
 some (Sum.inl (v97, v98))
 else
 some (Sum.inl (v97, v98))
 else
 bif (decide ((List.getD ((1 : Int) :: ((4 : Int) :: ([] : List Int))) (Int.toNat x346) (0 : Int)) = (4 : Int))) then
 bif (decide (((((List.length v406) - (Int.toNat (minA (((List.length v271) : Nat) : Int) (((List.length v406) : Nat) : Int)))) : Nat) : Int) ≠ (0 : Int))) then
 outO (outO (outO (some Bool.false)))
 else
 some (Sum.inl (v97, v98))
 else
 some (Sum.inl (v97, v98))) fun (v410, v411) =>
 joinO (bif (decide ((List.getD ((1 : Int) :: ((4 : Int) :: ([] : List Int))) (Int.toNat x346) (0 : Int)) = (1 : Int))) then
 bif (decide (v411 = (0 : Int))) then
 bif (decide (((((List.length v406) - (Int.toNat (minA (((List.length v271) : Nat) : Int) (((List.length v406) : Nat) : Int)))) : Nat) : Int) ≠ (0 : Int))) then
 outO (outO (outO (some Bool.false)))
 else
 bif (decide ((List.getD ((1 : Int) :: ((4 : Int) :: ([] : List Int))) (Int.toNat x346) (0 : Int)) = (1 : Int))) then
 bif (decide (v411 ≠ (0 : Int))) then
 bif (decide (((((List.length v406) - (Int.toNat (minA (((List.length v271) : Nat) : Int) (((List.length v406) : Nat) : Int)))) : Nat) : Int) ≠ (1 : Int))) then
 outO (outO (outO (some Bool.false)))
 else
 bif (decide (((0 : Int) ≤ (0 : Int)) ∧ ((0 : Int) < ((((List.length v406) - (Int.toNat (minA (((List.length v271) : Nat) : Int) (((List.length v406) : Nat) : Int)))) : Nat) : Int)))) then 
 bindO v406[((Int.toNat (minA (((List.length v271) : Nat) : Int) (((List.length v406) : Nat) : Int))) + 0)]? fun x412 =>
 bif (!((decide (x412.2.1 = (1 : Int))) && ((decide (x412.2.2.1 = v411)) && ((decide (x412.2.2.2.1 = (0 : Int))) && (decide (x412.2.2.2.2 = (0 : Int))))))) then
 outO (outO (outO (some Bool.false)))
 else
 some (Sum.inl ())
 else none
 else
 some (Sum.inl ())
 else
 some (Sum.inl ())
 else
 bif (decide ((List.getD ((1 : Int) :: ((4 : Int) :: ([] : List Int))) (Int.toNat x346) (0 : Int)) = (1 : Int))) then
 bif (decide (v411 ≠ (0 : Int))) then
 bif (decide (((((List.length v406) - (Int.toNat (minA (((List.length v271) : Nat) : Int) (((List.length v406) : Nat) : Int)))) : Nat) : Int) ≠ (1 : Int))) then
 outO (outO (outO (some Bool.false)))
 else
 bif (decide (((0 : Int) ≤ (0 : Int)) ∧ ((0 : Int) < ((((List.length v406) - (Int.toNat (minA (((List.length v271) : Nat) : Int) (((List.length v406) : Nat) : Int)))) : Nat) : Int)))) then 
 bindO v406[((Int.toNat (minA (((List.length v271) : Nat) : Int) (((List.length v406) : Nat) : Int))) + 0)]? fun x413 =>
 bif (!((decide (x413.2.1 = (1 : Int))) && ((decide (x413.2.2.1 = v411)) && ((decide (x413.2.2.2.1 = (0 : Int))) && (decide (x413.2.2.2.2 = (0 : Int))))))) then
 outO (outO (outO (some Bool.false)))
 else
 some (Sum.inl ())
 else none
 else
 some (Sum.inl ())
 else
 some (Sum.inl ())
 else
 bif (decide ((List.getD ((1 : Int) :: ((4 : Int) :: ([] : List Int))) (Int.toNat x346) (0 : Int)) = (1 : Int))) then
 bif (decide (v411 ≠ (0 : Int))) then
 bif (decide (((((List.length v406) - (Int.toNat (minA (((List.length v271) : Nat) : Int) (((List.length v406) : Nat) : Int)))) : Nat) : Int) ≠ (1 : Int))) then
 outO (outO (outO (some Bool.false)))
 else
 bif (decide (((0 : Int) ≤ (0 : Int)) ∧ ((0 : Int) < ((((List.length v406) - (Int.toNat (minA (((List.length v271) : Nat) : Int) (((List.length v406) : Nat) : Int)))) : Nat) : Int)))) then 
 bindO v406[((Int.toNat (minA (((List.length v271) : Nat) : Int) (((List.length v406) : Nat) : Int))) + 0)]? fun x414 =>
 bif (!((decide (x414.2.1 = (1 : Int))) && ((decide (x414.2.2.1 = v411)) && ((decide (x414.2.2.2.1 = (0 : Int))) && (decide (x414.2.2.2.2 = (0 : Int))))))) then
 outO (outO (outO (some Bool.false)))
 else
 some (Sum.inl ())
 else none
 else
 some (Sum.inl ())
 else
 some (Sum.inl ())) fun _ =>
 bif (decide (v390 ≠ v411)) then
 outO (outO (some Bool.false))
 else
 bif ((decide (v388 = (7 : Int))) != Bool.false) then
 outO (outO (some Bool.false))
 else
 bindO (server_May (v388, (v389, v390))) fun x415 =>
 bif (!x415) then
 outO (outO (some Bool.false))
 else
 bif (decide ((List.length v406) ≤ (List.length v406))) then 
 some (Sum.inl ((Go.IntKind.wrap .i64 (v96 + (1 : Int))), (v410, (v411, (v388, (v389, (v390, (v391, (v392, (v393, (v394, (v395, (v396, (v397, (v398, (v399, (v400, (v401, (v402, (v403, (v404, (v405, (List.take (List.length v406) v406)))))))))))))))))))))))
 else none
 else none
 else none
 else none
 else none
 else none
 else
 outO (bif (decide ((List.length v117) ≤ (List.length v117))) then 
 some (Sum.inl (v99, (v100, (v101, (v102, (v103, (v104, (v105, (v106, (v107, (v108, (v109, (v110, (v111, (v112, (v113, (v114, (v115, (v116, (List.take (List.length v117) v117))))))))))))))))))))
 else none)
 else
 outO (bif (decide ((List.length v117) ≤ (List.length v117))) then 
 some (Sum.inl (v99, (v100, (v101, (v102, (v103, (v104, (v105, (v106, (v107, (v108, (v109, (v110, (v111, (v112, (v113, (v114, (v115, (v116, (List.take (List.length v117) v117))))))))))))))))))))
 else none)) ((0 : Int), ((-1 : Int), ((0 : Int), (v77, (v78, (v79, (v80, (v81, (v82, (v83, (v84, (v85, (v86, (v87, (v88, (v89, (v90, (v91, (v92, (v93, (v94, (List.take (List.length v95) v95))))))))))))))))))))))
 else none) fun (v417, (v418, (v419, (v420, (v421, (v422, (v423, (v424, (v425, (v426, (v427, (v428, (v429, (v430, (v431, (v432, (v433, (v434, v435)))))))))))))))))) =>
 joinO (joinO (loopO (fun (v436, v437) =>
 bif (decide (v436 < (((List.length v435) : Nat) : Int))) then
 bif (decide (((0 : Int) ≤ v436) ∧ (v436 < (((List.length v435) : Nat) : Int)))) then 
 bindO v435[(Int.toNat v436)]? fun x438 =>
 bif (decide (x438.2.1 = (3 : Int))) then
 bif (decide (((0 : Int) ≤ v436) ∧ (v436 < (((List.length v435) : Nat) : Int)))) then 
 bindO v435[(Int.toNat v436)]? fun x439 =>
 bif (decide (x439.1 ≤ v434)) then
 bif (decide (((0 : Int) ≤ v436) ∧ (v436 < (((List.length v435) : Nat) : Int)))) then 
 bindO v435[(Int.toNat v436)]? fun x440 =>
 bif (decide (x440.2.2.1 ≥ (0 : Int))) then
 bif (decide (((0 : Int) ≤ v436) ∧ (v436 < (((List.length v435) : Nat) : Int)))) then 
 bindO v435[(Int.toNat v436)]? fun x441 =>
 bif (decide (x441.2.2.1 ≤ (1000 : Int))) then
 some (Sum.inl ((Go.IntKind.wrap .i64 (v436 + (1 : Int))), (Go.IntKind.wrap .i64 (v437 + (1 : Int)))))
 else
 some (Sum.inl ((Go.IntKind.wrap .i64 (v436 + (1 : Int))), v437))
 else none
 else
 some (Sum.inl ((Go.IntKind.wrap .i64 (v436 + (1 : Int))), v437))
 else none
 else
 some (Sum.inl ((Go.IntKind.wrap .i64 (v436 + (1 : Int))), v437))
 else none
 else
 some (Sum.inl ((Go.IntKind.wrap .i64 (v436 + (1 : Int))), v437))
 else none
 else
 outO (some (Sum.inl v437))) ((0 : Int), (0 : Int))) fun v448 =>
 some (Sum.inl v448)) fun v449 =>
 bif (decide (v449 = (1 : Int))) then
 joinO (joinO (joinO (loopO (fun (v450, v451) =>
 bif (decide (v450 < (((List.length v435) : Nat) : Int))) then
 bif (decide (((0 : Int) ≤ v450) ∧ (v450 < (((List.length v435) : Nat) : Int)))) then 
 bindO v435[(Int.toNat v450)]? fun x452 =>
 bif (decide (x452.2.1 = (7 : Int))) then
 bif (decide (((0 : Int) ≤ v450) ∧ (v450 < (((List.length v435) : Nat) : Int)))) then 
 bindO v435[(Int.toNat v450)]? fun x453 =>
 bif (decide (x453.1 ≤ v434)) then
 bif (decide (((0 : Int) ≤ v450) ∧ (v450 < (((List.length v435) : Nat) : Int)))) then 
 bindO v435[(Int.toNat v450)]? fun x454 =>
 bif (decide (x454.2.2.1 ≥ (0 : Int))) then
 bif (decide (((0 : Int) ≤ v450) ∧ (v450 < (((List.length v435) : Nat) : Int)))) then 
 bindO v435[(Int.toNat v450)]? fun x455 =>
 bif (decide (x455.2.2.1 ≤ (1000 : Int))) then
 some (Sum.inl ((Go.IntKind.wrap .i64 (v450 + (1 : Int))), (Go.IntKind.wrap .i64 (v451 + (1 : Int)))))
 else
 some (Sum.inl ((Go.IntKind.wrap .i64 (v450 + (1 : Int))), v451))
 else none
 else
 some (Sum.inl ((Go.IntKind.wrap .i64 (v450 + (1 : Int))), v451))
 else none
 else
 some (Sum.inl ((Go.IntKind.wrap .i64 (v450 + (1 : Int))), v451))
 else none
 else
 some (Sum.inl ((Go.IntKind.wrap .i64 (v450 + (1 : Int))), v451))
 else none
 else
 outO (some (Sum.inl v451))) ((0 : Int), (0 : Int))) fun v462 =>
 some (Sum.inl v462)) fun v463 =>
 bif (decide (v463 > (1 : Int))) then
 some (Sum.inl Bool.false)
 else
 bif ((decide (v463 = (1 : Int))) != (decide (v417 = (7 : Int)))) then
 some (Sum.inl Bool.false)
 else
 bif (decide (v463 = (0 : Int))) then
 some (Sum.inl Bool.true)
 else
 bif (decide ((((List.length v435) : Nat) : Int) > (0 : Int))) then
 bindO (some (Go.IntKind.wrap .i64 ((((List.length v435) : Nat) : Int) - (1 : Int)))) fun x464 =>
 bif (decide (((0 : Int) ≤ x464) ∧ (x464 < (((List.length v435) : Nat) : Int)))) then 
 bindO v435[(Int.toNat x464)]? fun x465 =>
 some (Sum.inl (decide (x465.2.1 = (7 : Int))))
 else none
 else
 some (Sum.inl Bool.false)) fun v466 =>
 bif v466 then
 some Bool.true
 else
 some Bool.false
 else
 some Bool.false
noncomputable def cons5 : List (Nat × CE) := [(9, ⟨[], [(.tmp 0 true [(.dat (.int .u8)), (.dat (.int .i64)), (.dat (.int .i64))]), (.tmp 1 false [(.dat (.list (.pair (.int .u8) (.pair (.int .i64) (.pair (.int .u8) (.int .i64))))))])], server_Start⟩), (18, ⟨[(.tmp 0 true [(.dat (.int .u8)), (.dat (.int .i64)), (.dat (.int .i64))])], [(.tmp 0 false [(.dat .bool)])], server_May⟩), (22, ⟨[(.tmp 0 true [(.dat (.int .u8)), (.dat (.int .i64)), (.dat (.int .i64))]), (.tmp 1 true [(.dat (.int .u8)), (.dat (.int .i64)), (.dat (.int .u8))])], [(.tmp 0 true [(.dat (.int .u8)), (.dat (.int .i64)), (.dat (.int .i64))]), (.tmp 1 false [(.dat (.list (.pair (.int .u8) (.pair (.int .i64) (.pair (.int .u8) (.int .i64))))))])], server_Step⟩), (13, ⟨[], riB, (fun _ => some true)⟩)]
theorem cons5_ok : ConL Tryd.prog cons5 := ⟨con9, con18, con22, con_true (by kernel_rfl) lives_o, trivial⟩
theorem con5 : ConOk Tryd.prog 5 ⟨[(.tmp 0 false [(.dat (.list (.pair (.int .u16) (.pair (.int .u8) (.int .i64)))))])], [(.tmp 0 false [(.dat .bool)])], dialtonelaw15_ServerAnswers⟩ :=
  tree_ok (plan := planOf plan5) (eg := egNo) KK tabL_ok (conOf_ok cons5_ok) Tryd.func5 (by kernel_rfl) (by kernel_rfl) 10000 (fun a r h => Eq.trans (show _ = dialtonelaw15_ServerAnswers a from by kernel_rfl) h)
end Go.Proofs.YtpbanfkjeiihbaaDoor
