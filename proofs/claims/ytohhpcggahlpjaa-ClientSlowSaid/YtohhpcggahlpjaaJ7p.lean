import Derived.Test.YtohhpcggahlpjaaJ5p
import Derived.Test.YtohhpcggahlpjaaZ3p
set_option linter.unusedVariables false
set_option maxRecDepth 1000000
set_option maxHeartbeats 0
namespace Go.Proofs.Ytohhpcggahlpjaa
open Go.RowKit
noncomputable def slowB (x3 : Int) : Option Bool :=
 joinO (loopO (fun (v4, (v5, (v6, (v7, (v8, (v9, (v10, (v11, (v12, (v13, (v14, (v15, (v16, (v17, (v18, (v19, (v20, (v21, v22)))))))))))))))))) =>
 bif (decide (v4 < (14 : Int))) then
 bif (decide (((0 : Int) ≤ v4) ∧ (v4 < (14 : Int)))) then 
 bif (decide ((((Int.toNat v4) * 1) + 1) ≤ 15)) then 
 bindO (some (putL (v8 :: (v9 :: (v10 :: (v11 :: (v12 :: (v13 :: (v14 :: (v15 :: (v16 :: (v17 :: (v18 :: (v19 :: (v20 :: (v21 :: (v22 :: ([] : List Int)))))))))))))))) ((Int.toNat v4) * 1) ((-1 : Int) :: ([] : List Int)))) fun x23 =>
 some (Sum.inl ((Go.IntKind.wrap .i64 (v4 + (1 : Int))), (v5, (v6, (v7, ((List.getD x23 0 (0 : Int)), ((List.getD x23 1 (0 : Int)), ((List.getD x23 2 (0 : Int)), ((List.getD x23 3 (0 : Int)), ((List.getD x23 4 (0 : Int)), ((List.getD x23 5 (0 : Int)), ((List.getD x23 6 (0 : Int)), ((List.getD x23 7 (0 : Int)), ((List.getD x23 8 (0 : Int)), ((List.getD x23 9 (0 : Int)), ((List.getD x23 10 (0 : Int)), ((List.getD x23 11 (0 : Int)), ((List.getD x23 12 (0 : Int)), ((List.getD x23 13 (0 : Int)), (List.getD x23 14 (0 : Int)))))))))))))))))))))
 else none
 else none
 else
 outO (some (Sum.inl (v5, (v6, (v7, (v8, (v9, (v10, (v11, (v12, (v13, (v14, (v15, (v16, (v17, (v18, (v19, (v20, (v21, v22)))))))))))))))))))) ((0 : Int), ((0 : Int), ((0 : Int), ((0 : Int), ((0 : Int), ((0 : Int), ((0 : Int), ((0 : Int), ((0 : Int), ((0 : Int), ((0 : Int), ((0 : Int), ((0 : Int), ((0 : Int), ((0 : Int), ((0 : Int), ((0 : Int), ((0 : Int), (0 : Int)))))))))))))))))))) fun (v25, (v26, (v27, (v28, (v29, (v30, (v31, (v32, (v33, (v34, (v35, (v36, (v37, (v38, (v39, (v40, (v41, v42))))))))))))))))) =>
 bindO (client_Start ()) fun ((x44, (x45, x46)), x47) =>
 joinO (loopO (fun (v48, (v49, (v50, (v51, (v52, (v53, (v54, (v55, (v56, (v57, (v58, (v59, (v60, (v61, (v62, (v63, (v64, (v65, (v66, v67))))))))))))))))))) =>
 bif (decide (v48 < (((List.length x47) : Nat) : Int))) then
 bif (decide (((0 : Int) ≤ v48) ∧ (v48 < (((List.length x47) : Nat) : Int)))) then 
 bindO x47[(Int.toNat v48)]? fun x68 =>
 bif (decide ((List.length v67) ≤ (List.length v67))) then 
 bif (decide (((List.length ((List.take (List.length v67) v67) ++ ((v66, (x68.1, (x68.2.1, (x68.2.2.1, x68.2.2.2)))) :: ([] : List (Int × (Int × (Int × (Int × Int)))))))) * 40) ≤ 140737488355328)) then 
 bindO (some ((List.take (List.length v67) v67) ++ ((v66, (x68.1, (x68.2.1, (x68.2.2.1, x68.2.2.2)))) :: ([] : List (Int × (Int × (Int × (Int × Int)))))))) fun x69 =>
 bif (decide (((0 : Int) ≤ v48) ∧ (v48 < (((List.length x47) : Nat) : Int)))) then 
 bindO x47[(Int.toNat v48)]? fun x70 =>
 bif (decide (x70.1 = (4 : Int))) then
 bif (decide (((0 : Int) ≤ v48) ∧ (v48 < (((List.length x47) : Nat) : Int)))) then 
 bindO x47[(Int.toNat v48)]? fun x71 =>
 bif (decide (x71.2.2.1 < (14 : Int))) then
 bif (decide (((0 : Int) ≤ v48) ∧ (v48 < (((List.length x47) : Nat) : Int)))) then 
 bindO x47[(Int.toNat v48)]? fun x72 =>
 bif (decide (((0 : Int) ≤ v48) ∧ (v48 < (((List.length x47) : Nat) : Int)))) then 
 bindO x47[(Int.toNat v48)]? fun x73 =>
 bif (decide (((0 : Int) ≤ x72.2.2.1) ∧ (x72.2.2.1 < (14 : Int)))) then 
 bif (decide ((((Int.toNat x72.2.2.1) * 1) + 1) ≤ 15)) then 
 bindO (some (putL (v52 :: (v53 :: (v54 :: (v55 :: (v56 :: (v57 :: (v58 :: (v59 :: (v60 :: (v61 :: (v62 :: (v63 :: (v64 :: (v65 :: (v66 :: ([] : List Int)))))))))))))))) ((Int.toNat x72.2.2.1) * 1) ((Go.IntKind.wrap .i64 (v66 + (maxA (1 : Int) x73.2.2.2))) :: ([] : List Int)))) fun x75 =>
 bif (decide ((List.length x69) ≤ (List.length x69))) then 
 some (Sum.inl ((Go.IntKind.wrap .i64 (v48 + (1 : Int))), (v49, (v50, (v51, ((List.getD x75 0 (0 : Int)), ((List.getD x75 1 (0 : Int)), ((List.getD x75 2 (0 : Int)), ((List.getD x75 3 (0 : Int)), ((List.getD x75 4 (0 : Int)), ((List.getD x75 5 (0 : Int)), ((List.getD x75 6 (0 : Int)), ((List.getD x75 7 (0 : Int)), ((List.getD x75 8 (0 : Int)), ((List.getD x75 9 (0 : Int)), ((List.getD x75 10 (0 : Int)), ((List.getD x75 11 (0 : Int)), ((List.getD x75 12 (0 : Int)), ((List.getD x75 13 (0 : Int)), ((List.getD x75 14 (0 : Int)), (List.take (List.length x69) x69)))))))))))))))))))))
 else none
 else none
 else none
 else none
 else none
 else
 bif (decide ((List.length x69) ≤ (List.length x69))) then 
 some (Sum.inl ((Go.IntKind.wrap .i64 (v48 + (1 : Int))), (v49, (v50, (v51, (v52, (v53, (v54, (v55, (v56, (v57, (v58, (v59, (v60, (v61, (v62, (v63, (v64, (v65, (v66, (List.take (List.length x69) x69)))))))))))))))))))))
 else none
 else none
 else
 bif (decide ((List.length x69) ≤ (List.length x69))) then 
 some (Sum.inl ((Go.IntKind.wrap .i64 (v48 + (1 : Int))), (v49, (v50, (v51, (v52, (v53, (v54, (v55, (v56, (v57, (v58, (v59, (v60, (v61, (v62, (v63, (v64, (v65, (v66, (List.take (List.length x69) x69)))))))))))))))))))))
 else none
 else none
 else none
 else none
 else none
 else
 outO (bif (decide ((List.length v67) ≤ (List.length v67))) then 
 some (Sum.inl (v49, (v50, (v51, (v52, (v53, (v54, (v55, (v56, (v57, (v58, (v59, (v60, (v61, (v62, (v63, (v64, (v65, (v66, (List.take (List.length v67) v67))))))))))))))))))))
 else none)) ((0 : Int), (x44, (x45, (x46, (v28, (v29, (v30, (v31, (v32, (v33, (v34, (v35, (v36, (v37, (v38, (v39, (v40, (v41, (v42, ([] : List (Int × (Int × (Int × (Int × Int))))))))))))))))))))))))) fun (v79, (v80, (v81, (v82, (v83, (v84, (v85, (v86, (v87, (v88, (v89, (v90, (v91, (v92, (v93, (v94, (v95, (v96, v97)))))))))))))))))) =>
 joinO (joinO (bif (decide ((List.length v97) ≤ (List.length v97))) then 
 loopO (fun (v98, (v99, (v100, (v101, (v102, (v103, (v104, (v105, (v106, (v107, (v108, (v109, (v110, (v111, (v112, (v113, (v114, (v115, (v116, v117))))))))))))))))))) =>
 bif (decide (v98 < (200 : Int))) then
 joinO (joinO (loopO (fun (v118, v119) =>
 bif (decide (v118 < (14 : Int))) then
 bif (decide (((0 : Int) ≤ v118) ∧ (v118 < (14 : Int)))) then 
 bindO (v102 :: (v103 :: (v104 :: (v105 :: (v106 :: (v107 :: (v108 :: (v109 :: (v110 :: (v111 :: (v112 :: (v113 :: (v114 :: (v115 :: (v116 :: ([] : List Int))))))))))))))))[(Int.toNat v118)]? fun x120 =>
 bif (decide (x120 ≥ (0 : Int))) then
 bif (decide (((0 : Int) ≤ v118) ∧ (v118 < (14 : Int)))) then 
 bindO (v102 :: (v103 :: (v104 :: (v105 :: (v106 :: (v107 :: (v108 :: (v109 :: (v110 :: (v111 :: (v112 :: (v113 :: (v114 :: (v115 :: (v116 :: ([] : List Int))))))))))))))))[(Int.toNat v118)]? fun x121 =>
 bif (decide (x121 ≤ x3)) then
 bif (decide (v119 < (0 : Int))) then
 some (Sum.inl ((Go.IntKind.wrap .i64 (v118 + (1 : Int))), v118))
 else
 bif (decide (((0 : Int) ≤ v118) ∧ (v118 < (14 : Int)))) then 
 bindO (v102 :: (v103 :: (v104 :: (v105 :: (v106 :: (v107 :: (v108 :: (v109 :: (v110 :: (v111 :: (v112 :: (v113 :: (v114 :: (v115 :: (v116 :: ([] : List Int))))))))))))))))[(Int.toNat v118)]? fun x123 =>
 bif (decide (((0 : Int) ≤ v119) ∧ (v119 < (14 : Int)))) then 
 bindO (v102 :: (v103 :: (v104 :: (v105 :: (v106 :: (v107 :: (v108 :: (v109 :: (v110 :: (v111 :: (v112 :: (v113 :: (v114 :: (v115 :: (v116 :: ([] : List Int))))))))))))))))[(Int.toNat v119)]? fun x124 =>
 bif (decide (x123 < x124)) then
 some (Sum.inl ((Go.IntKind.wrap .i64 (v118 + (1 : Int))), v118))
 else
 some (Sum.inl ((Go.IntKind.wrap .i64 (v118 + (1 : Int))), v119))
 else none
 else none
 else
 some (Sum.inl ((Go.IntKind.wrap .i64 (v118 + (1 : Int))), v119))
 else none
 else
 some (Sum.inl ((Go.IntKind.wrap .i64 (v118 + (1 : Int))), v119))
 else none
 else
 outO (some (Sum.inl (v118, v119)))) ((0 : Int), (-1 : Int))) fun (v129, v130) =>
 bif (decide (v130 < (0 : Int))) then
 outO (outO (bif (decide ((List.length v117) ≤ (List.length v117))) then 
 some (Sum.inl (v99, (v100, (v101, (v102, (v103, (v104, (v105, (v106, (v107, (v108, (v109, (v110, (v111, (v112, (v113, (v114, (v115, (v116, (List.take (List.length v117) v117))))))))))))))))))))
 else none))
 else
 bif (decide (((0 : Int) ≤ v130) ∧ (v130 < (14 : Int)))) then 
 bindO (v102 :: (v103 :: (v104 :: (v105 :: (v106 :: (v107 :: (v108 :: (v109 :: (v110 :: (v111 :: (v112 :: (v113 :: (v114 :: (v115 :: (v116 :: ([] : List Int))))))))))))))))[(Int.toNat v130)]? fun x131 =>
 bif (decide (((0 : Int) ≤ v130) ∧ (v130 < (14 : Int)))) then 
 bif (decide ((((Int.toNat v130) * 1) + 1) ≤ 15)) then 
 bindO (some (putL (v102 :: (v103 :: (v104 :: (v105 :: (v106 :: (v107 :: (v108 :: (v109 :: (v110 :: (v111 :: (v112 :: (v113 :: (v114 :: (v115 :: (x131 :: ([] : List Int)))))))))))))))) ((Int.toNat v130) * 1) ((-1 : Int) :: ([] : List Int)))) fun x132 =>
 bindO (client_Step ((v99, (v100, v101)), ((5 : Int), ((0 : Int), (Go.IntKind.wrap .u8 v130))))) fun ((x135, (x136, x137)), x138) =>
 joinO (bif (decide ((List.length v117) ≤ (List.length v117))) then 
 loopO (fun (v139, (v140, (v141, (v142, (v143, (v144, (v145, (v146, (v147, (v148, (v149, (v150, (v151, (v152, (v153, (v154, (v155, (v156, (v157, v158))))))))))))))))))) =>
 bif (decide (v139 < (((List.length x138) : Nat) : Int))) then
 bif (decide (((0 : Int) ≤ v139) ∧ (v139 < (((List.length x138) : Nat) : Int)))) then 
 bindO x138[(Int.toNat v139)]? fun x159 =>
 bif (decide ((List.length v158) ≤ (List.length v158))) then 
 bif (decide (((List.length ((List.take (List.length v158) v158) ++ ((v157, (x159.1, (x159.2.1, (x159.2.2.1, x159.2.2.2)))) :: ([] : List (Int × (Int × (Int × (Int × Int)))))))) * 40) ≤ 140737488355328)) then 
 bindO (some ((List.take (List.length v158) v158) ++ ((v157, (x159.1, (x159.2.1, (x159.2.2.1, x159.2.2.2)))) :: ([] : List (Int × (Int × (Int × (Int × Int)))))))) fun x160 =>
 bif (decide (((0 : Int) ≤ v139) ∧ (v139 < (((List.length x138) : Nat) : Int)))) then 
 bindO x138[(Int.toNat v139)]? fun x161 =>
 bif (decide (x161.1 = (4 : Int))) then
 bif (decide (((0 : Int) ≤ v139) ∧ (v139 < (((List.length x138) : Nat) : Int)))) then 
 bindO x138[(Int.toNat v139)]? fun x162 =>
 bif (decide (x162.2.2.1 < (14 : Int))) then
 bif (decide (((0 : Int) ≤ v139) ∧ (v139 < (((List.length x138) : Nat) : Int)))) then 
 bindO x138[(Int.toNat v139)]? fun x163 =>
 bif (decide (((0 : Int) ≤ v139) ∧ (v139 < (((List.length x138) : Nat) : Int)))) then 
 bindO x138[(Int.toNat v139)]? fun x164 =>
 bif (decide (((0 : Int) ≤ x163.2.2.1) ∧ (x163.2.2.1 < (14 : Int)))) then 
 bif (decide ((((Int.toNat x163.2.2.1) * 1) + 1) ≤ 15)) then 
 bindO (some (putL (v143 :: (v144 :: (v145 :: (v146 :: (v147 :: (v148 :: (v149 :: (v150 :: (v151 :: (v152 :: (v153 :: (v154 :: (v155 :: (v156 :: (v157 :: ([] : List Int)))))))))))))))) ((Int.toNat x163.2.2.1) * 1) ((Go.IntKind.wrap .i64 (v157 + (maxA (1 : Int) x164.2.2.2))) :: ([] : List Int)))) fun x166 =>
 bif (decide ((List.length x160) ≤ (List.length x160))) then 
 some (Sum.inl ((Go.IntKind.wrap .i64 (v139 + (1 : Int))), (v140, (v141, (v142, ((List.getD x166 0 (0 : Int)), ((List.getD x166 1 (0 : Int)), ((List.getD x166 2 (0 : Int)), ((List.getD x166 3 (0 : Int)), ((List.getD x166 4 (0 : Int)), ((List.getD x166 5 (0 : Int)), ((List.getD x166 6 (0 : Int)), ((List.getD x166 7 (0 : Int)), ((List.getD x166 8 (0 : Int)), ((List.getD x166 9 (0 : Int)), ((List.getD x166 10 (0 : Int)), ((List.getD x166 11 (0 : Int)), ((List.getD x166 12 (0 : Int)), ((List.getD x166 13 (0 : Int)), ((List.getD x166 14 (0 : Int)), (List.take (List.length x160) x160)))))))))))))))))))))
 else none
 else none
 else none
 else none
 else none
 else
 bif (decide ((List.length x160) ≤ (List.length x160))) then 
 some (Sum.inl ((Go.IntKind.wrap .i64 (v139 + (1 : Int))), (v140, (v141, (v142, (v143, (v144, (v145, (v146, (v147, (v148, (v149, (v150, (v151, (v152, (v153, (v154, (v155, (v156, (v157, (List.take (List.length x160) x160)))))))))))))))))))))
 else none
 else none
 else
 bif (decide ((List.length x160) ≤ (List.length x160))) then 
 some (Sum.inl ((Go.IntKind.wrap .i64 (v139 + (1 : Int))), (v140, (v141, (v142, (v143, (v144, (v145, (v146, (v147, (v148, (v149, (v150, (v151, (v152, (v153, (v154, (v155, (v156, (v157, (List.take (List.length x160) x160)))))))))))))))))))))
 else none
 else none
 else none
 else none
 else none
 else
 outO (bif (decide ((List.length v158) ≤ (List.length v158))) then 
 some (Sum.inl (v140, (v141, (v142, (v143, (v144, (v145, (v146, (v147, (v148, (v149, (v150, (v151, (v152, (v153, (v154, (v155, (v156, (v157, (List.take (List.length v158) v158))))))))))))))))))))
 else none)) ((0 : Int), (x135, (x136, (x137, ((List.getD x132 0 (0 : Int)), ((List.getD x132 1 (0 : Int)), ((List.getD x132 2 (0 : Int)), ((List.getD x132 3 (0 : Int)), ((List.getD x132 4 (0 : Int)), ((List.getD x132 5 (0 : Int)), ((List.getD x132 6 (0 : Int)), ((List.getD x132 7 (0 : Int)), ((List.getD x132 8 (0 : Int)), ((List.getD x132 9 (0 : Int)), ((List.getD x132 10 (0 : Int)), ((List.getD x132 11 (0 : Int)), ((List.getD x132 12 (0 : Int)), ((List.getD x132 13 (0 : Int)), ((List.getD x132 14 (0 : Int)), (List.take (List.length v117) v117))))))))))))))))))))
 else none) fun (v170, (v171, (v172, (v173, (v174, (v175, (v176, (v177, (v178, (v179, (v180, (v181, (v182, (v183, (v184, (v185, (v186, (v187, v188)))))))))))))))))) =>
 bif (decide ((List.length v188) ≤ (List.length v188))) then 
 some (Sum.inl (v129, (v130, (v170, (v171, (v172, (v173, (v174, (v175, (v176, (v177, (v178, (v179, (v180, (v181, (v182, (v183, (v184, (v185, (v186, (v187, (List.take (List.length v188) v188))))))))))))))))))))))
 else none
 else none
 else none
 else none) fun (v189, (v190, (v191, (v192, (v193, (v194, (v195, (v196, (v197, (v198, (v199, (v200, (v201, (v202, (v203, (v204, (v205, (v206, (v207, (v208, v209)))))))))))))))))))) =>
 bif (decide ((List.length v209) ≤ (List.length v209))) then 
 some (Sum.inl ((Go.IntKind.wrap .i64 (v98 + (1 : Int))), (v191, (v192, (v193, (v194, (v195, (v196, (v197, (v198, (v199, (v200, (v201, (v202, (v203, (v204, (v205, (v206, (v207, (v208, (List.take (List.length v209) v209)))))))))))))))))))))
 else none
 else
 outO (bif (decide ((List.length v117) ≤ (List.length v117))) then 
 some (Sum.inl (v99, (v100, (v101, (v102, (v103, (v104, (v105, (v106, (v107, (v108, (v109, (v110, (v111, (v112, (v113, (v114, (v115, (v116, (List.take (List.length v117) v117))))))))))))))))))))
 else none)) ((0 : Int), (v79, (v80, (v81, (v82, (v83, (v84, (v85, (v86, (v87, (v88, (v89, (v90, (v91, (v92, (v93, (v94, (v95, (v96, (List.take (List.length v97) v97))))))))))))))))))))
 else none) fun (v211, (v212, (v213, (v214, (v215, (v216, (v217, (v218, (v219, (v220, (v221, (v222, (v223, (v224, (v225, (v226, (v227, (v228, v229)))))))))))))))))) =>
 bif (decide ((List.length v229) ≤ (List.length v229))) then 
 some (Sum.inl (v211, (v212, (v213, (v214, (v215, (v216, (v217, (v218, (v219, (v220, (v221, (v222, (v223, (v224, (v225, (v226, (v227, ((maxA v228 x3), (List.take (List.length v229) v229))))))))))))))))))))
 else none) fun (v230, (v231, (v232, (v233, (v234, (v235, (v236, (v237, (v238, (v239, (v240, (v241, (v242, (v243, (v244, (v245, (v246, (v247, v248)))))))))))))))))) =>
 bindO (client_Step ((v230, (v231, v232)), ((2 : Int), ((183 : Int), (0 : Int))))) fun ((x250, (x251, x252)), x253) =>
 joinO (bif (decide ((List.length v248) ≤ (List.length v248))) then 
 loopO (fun (v254, (v255, (v256, (v257, (v258, (v259, (v260, (v261, (v262, (v263, (v264, (v265, (v266, (v267, (v268, (v269, (v270, (v271, (v272, v273))))))))))))))))))) =>
 bif (decide (v254 < (((List.length x253) : Nat) : Int))) then
 bif (decide (((0 : Int) ≤ v254) ∧ (v254 < (((List.length x253) : Nat) : Int)))) then 
 bindO x253[(Int.toNat v254)]? fun x274 =>
 bif (decide ((List.length v273) ≤ (List.length v273))) then 
 bif (decide (((List.length ((List.take (List.length v273) v273) ++ ((v272, (x274.1, (x274.2.1, (x274.2.2.1, x274.2.2.2)))) :: ([] : List (Int × (Int × (Int × (Int × Int)))))))) * 40) ≤ 140737488355328)) then 
 bindO (some ((List.take (List.length v273) v273) ++ ((v272, (x274.1, (x274.2.1, (x274.2.2.1, x274.2.2.2)))) :: ([] : List (Int × (Int × (Int × (Int × Int)))))))) fun x275 =>
 bif (decide (((0 : Int) ≤ v254) ∧ (v254 < (((List.length x253) : Nat) : Int)))) then 
 bindO x253[(Int.toNat v254)]? fun x276 =>
 bif (decide (x276.1 = (4 : Int))) then
 bif (decide (((0 : Int) ≤ v254) ∧ (v254 < (((List.length x253) : Nat) : Int)))) then 
 bindO x253[(Int.toNat v254)]? fun x277 =>
 bif (decide (x277.2.2.1 < (14 : Int))) then
 bif (decide (((0 : Int) ≤ v254) ∧ (v254 < (((List.length x253) : Nat) : Int)))) then 
 bindO x253[(Int.toNat v254)]? fun x278 =>
 bif (decide (((0 : Int) ≤ v254) ∧ (v254 < (((List.length x253) : Nat) : Int)))) then 
 bindO x253[(Int.toNat v254)]? fun x279 =>
 bif (decide (((0 : Int) ≤ x278.2.2.1) ∧ (x278.2.2.1 < (14 : Int)))) then 
 bif (decide ((((Int.toNat x278.2.2.1) * 1) + 1) ≤ 15)) then 
 bindO (some (putL (v258 :: (v259 :: (v260 :: (v261 :: (v262 :: (v263 :: (v264 :: (v265 :: (v266 :: (v267 :: (v268 :: (v269 :: (v270 :: (v271 :: (v272 :: ([] : List Int)))))))))))))))) ((Int.toNat x278.2.2.1) * 1) ((Go.IntKind.wrap .i64 (v272 + (maxA (1 : Int) x279.2.2.2))) :: ([] : List Int)))) fun x281 =>
 bif (decide ((List.length x275) ≤ (List.length x275))) then 
 some (Sum.inl ((Go.IntKind.wrap .i64 (v254 + (1 : Int))), (v255, (v256, (v257, ((List.getD x281 0 (0 : Int)), ((List.getD x281 1 (0 : Int)), ((List.getD x281 2 (0 : Int)), ((List.getD x281 3 (0 : Int)), ((List.getD x281 4 (0 : Int)), ((List.getD x281 5 (0 : Int)), ((List.getD x281 6 (0 : Int)), ((List.getD x281 7 (0 : Int)), ((List.getD x281 8 (0 : Int)), ((List.getD x281 9 (0 : Int)), ((List.getD x281 10 (0 : Int)), ((List.getD x281 11 (0 : Int)), ((List.getD x281 12 (0 : Int)), ((List.getD x281 13 (0 : Int)), ((List.getD x281 14 (0 : Int)), (List.take (List.length x275) x275)))))))))))))))))))))
 else none
 else none
 else none
 else none
 else none
 else
 bif (decide ((List.length x275) ≤ (List.length x275))) then 
 some (Sum.inl ((Go.IntKind.wrap .i64 (v254 + (1 : Int))), (v255, (v256, (v257, (v258, (v259, (v260, (v261, (v262, (v263, (v264, (v265, (v266, (v267, (v268, (v269, (v270, (v271, (v272, (List.take (List.length x275) x275)))))))))))))))))))))
 else none
 else none
 else
 bif (decide ((List.length x275) ≤ (List.length x275))) then 
 some (Sum.inl ((Go.IntKind.wrap .i64 (v254 + (1 : Int))), (v255, (v256, (v257, (v258, (v259, (v260, (v261, (v262, (v263, (v264, (v265, (v266, (v267, (v268, (v269, (v270, (v271, (v272, (List.take (List.length x275) x275)))))))))))))))))))))
 else none
 else none
 else none
 else none
 else none
 else
 outO (bif (decide ((List.length v273) ≤ (List.length v273))) then 
 some (Sum.inl (v255, (v256, (v257, (v258, (v259, (v260, (v261, (v262, (v263, (v264, (v265, (v266, (v267, (v268, (v269, (v270, (v271, (v272, (List.take (List.length v273) v273))))))))))))))))))))
 else none)) ((0 : Int), (x250, (x251, (x252, (v233, (v234, (v235, (v236, (v237, (v238, (v239, (v240, (v241, (v242, (v243, (v244, (v245, (v246, (v247, (List.take (List.length v248) v248))))))))))))))))))))
 else none) fun (v285, (v286, (v287, (v288, (v289, (v290, (v291, (v292, (v293, (v294, (v295, (v296, (v297, (v298, (v299, (v300, (v301, (v302, v303)))))))))))))))))) =>
 bindO (client_Copies x3) fun x304 =>
 joinO (joinO (bif (decide ((List.length v303) ≤ (List.length v303))) then 
 loopO (fun (v305, (v306, (v307, (v308, (v309, (v310, (v311, (v312, (v313, (v314, (v315, (v316, (v317, (v318, (v319, (v320, (v321, (v322, (v323, v324))))))))))))))))))) =>
 bif (decide (v305 < (200 : Int))) then
 joinO (joinO (loopO (fun (v325, v326) =>
 bif (decide (v325 < (14 : Int))) then
 bif (decide (((0 : Int) ≤ v325) ∧ (v325 < (14 : Int)))) then 
 bindO (v309 :: (v310 :: (v311 :: (v312 :: (v313 :: (v314 :: (v315 :: (v316 :: (v317 :: (v318 :: (v319 :: (v320 :: (v321 :: (v322 :: (v323 :: ([] : List Int))))))))))))))))[(Int.toNat v325)]? fun x327 =>
 bif (decide (x327 ≥ (0 : Int))) then
 bif (decide (((0 : Int) ≤ v325) ∧ (v325 < (14 : Int)))) then 
 bindO (v309 :: (v310 :: (v311 :: (v312 :: (v313 :: (v314 :: (v315 :: (v316 :: (v317 :: (v318 :: (v319 :: (v320 :: (v321 :: (v322 :: (v323 :: ([] : List Int))))))))))))))))[(Int.toNat v325)]? fun x328 =>
 bif (decide (x328 ≤ (40000 : Int))) then
 bif (decide (v326 < (0 : Int))) then
 some (Sum.inl ((Go.IntKind.wrap .i64 (v325 + (1 : Int))), v325))
 else
 bif (decide (((0 : Int) ≤ v325) ∧ (v325 < (14 : Int)))) then 
 bindO (v309 :: (v310 :: (v311 :: (v312 :: (v313 :: (v314 :: (v315 :: (v316 :: (v317 :: (v318 :: (v319 :: (v320 :: (v321 :: (v322 :: (v323 :: ([] : List Int))))))))))))))))[(Int.toNat v325)]? fun x330 =>
 bif (decide (((0 : Int) ≤ v326) ∧ (v326 < (14 : Int)))) then 
 bindO (v309 :: (v310 :: (v311 :: (v312 :: (v313 :: (v314 :: (v315 :: (v316 :: (v317 :: (v318 :: (v319 :: (v320 :: (v321 :: (v322 :: (v323 :: ([] : List Int))))))))))))))))[(Int.toNat v326)]? fun x331 =>
 bif (decide (x330 < x331)) then
 some (Sum.inl ((Go.IntKind.wrap .i64 (v325 + (1 : Int))), v325))
 else
 some (Sum.inl ((Go.IntKind.wrap .i64 (v325 + (1 : Int))), v326))
 else none
 else none
 else
 some (Sum.inl ((Go.IntKind.wrap .i64 (v325 + (1 : Int))), v326))
 else none
 else
 some (Sum.inl ((Go.IntKind.wrap .i64 (v325 + (1 : Int))), v326))
 else none
 else
 outO (some (Sum.inl (v325, v326)))) ((0 : Int), (-1 : Int))) fun (v336, v337) =>
 bif (decide (v337 < (0 : Int))) then
 outO (outO (bif (decide ((List.length v324) ≤ (List.length v324))) then 
 some (Sum.inl (v306, (v307, (v308, (v309, (v310, (v311, (v312, (v313, (v314, (v315, (v316, (v317, (v318, (v319, (v320, (v321, (v322, (v323, (List.take (List.length v324) v324))))))))))))))))))))
 else none))
 else
 bif (decide (((0 : Int) ≤ v337) ∧ (v337 < (14 : Int)))) then 
 bindO (v309 :: (v310 :: (v311 :: (v312 :: (v313 :: (v314 :: (v315 :: (v316 :: (v317 :: (v318 :: (v319 :: (v320 :: (v321 :: (v322 :: (v323 :: ([] : List Int))))))))))))))))[(Int.toNat v337)]? fun x338 =>
 bif (decide (((0 : Int) ≤ v337) ∧ (v337 < (14 : Int)))) then 
 bif (decide ((((Int.toNat v337) * 1) + 1) ≤ 15)) then 
 bindO (some (putL (v309 :: (v310 :: (v311 :: (v312 :: (v313 :: (v314 :: (v315 :: (v316 :: (v317 :: (v318 :: (v319 :: (v320 :: (v321 :: (v322 :: (x338 :: ([] : List Int)))))))))))))))) ((Int.toNat v337) * 1) ((-1 : Int) :: ([] : List Int)))) fun x339 =>
 bindO (client_Step ((v306, (v307, v308)), ((5 : Int), ((0 : Int), (Go.IntKind.wrap .u8 v337))))) fun ((x342, (x343, x344)), x345) =>
 joinO (bif (decide ((List.length v324) ≤ (List.length v324))) then 
 loopO (fun (v346, (v347, (v348, (v349, (v350, (v351, (v352, (v353, (v354, (v355, (v356, (v357, (v358, (v359, (v360, (v361, (v362, (v363, (v364, v365))))))))))))))))))) =>
 bif (decide (v346 < (((List.length x345) : Nat) : Int))) then
 bif (decide (((0 : Int) ≤ v346) ∧ (v346 < (((List.length x345) : Nat) : Int)))) then 
 bindO x345[(Int.toNat v346)]? fun x366 =>
 bif (decide ((List.length v365) ≤ (List.length v365))) then 
 bif (decide (((List.length ((List.take (List.length v365) v365) ++ ((v364, (x366.1, (x366.2.1, (x366.2.2.1, x366.2.2.2)))) :: ([] : List (Int × (Int × (Int × (Int × Int)))))))) * 40) ≤ 140737488355328)) then 
 bindO (some ((List.take (List.length v365) v365) ++ ((v364, (x366.1, (x366.2.1, (x366.2.2.1, x366.2.2.2)))) :: ([] : List (Int × (Int × (Int × (Int × Int)))))))) fun x367 =>
 bif (decide (((0 : Int) ≤ v346) ∧ (v346 < (((List.length x345) : Nat) : Int)))) then 
 bindO x345[(Int.toNat v346)]? fun x368 =>
 bif (decide (x368.1 = (4 : Int))) then
 bif (decide (((0 : Int) ≤ v346) ∧ (v346 < (((List.length x345) : Nat) : Int)))) then 
 bindO x345[(Int.toNat v346)]? fun x369 =>
 bif (decide (x369.2.2.1 < (14 : Int))) then
 bif (decide (((0 : Int) ≤ v346) ∧ (v346 < (((List.length x345) : Nat) : Int)))) then 
 bindO x345[(Int.toNat v346)]? fun x370 =>
 bif (decide (((0 : Int) ≤ v346) ∧ (v346 < (((List.length x345) : Nat) : Int)))) then 
 bindO x345[(Int.toNat v346)]? fun x371 =>
 bif (decide (((0 : Int) ≤ x370.2.2.1) ∧ (x370.2.2.1 < (14 : Int)))) then 
 bif (decide ((((Int.toNat x370.2.2.1) * 1) + 1) ≤ 15)) then 
 bindO (some (putL (v350 :: (v351 :: (v352 :: (v353 :: (v354 :: (v355 :: (v356 :: (v357 :: (v358 :: (v359 :: (v360 :: (v361 :: (v362 :: (v363 :: (v364 :: ([] : List Int)))))))))))))))) ((Int.toNat x370.2.2.1) * 1) ((Go.IntKind.wrap .i64 (v364 + (maxA (1 : Int) x371.2.2.2))) :: ([] : List Int)))) fun x373 =>
 bif (decide ((List.length x367) ≤ (List.length x367))) then 
 some (Sum.inl ((Go.IntKind.wrap .i64 (v346 + (1 : Int))), (v347, (v348, (v349, ((List.getD x373 0 (0 : Int)), ((List.getD x373 1 (0 : Int)), ((List.getD x373 2 (0 : Int)), ((List.getD x373 3 (0 : Int)), ((List.getD x373 4 (0 : Int)), ((List.getD x373 5 (0 : Int)), ((List.getD x373 6 (0 : Int)), ((List.getD x373 7 (0 : Int)), ((List.getD x373 8 (0 : Int)), ((List.getD x373 9 (0 : Int)), ((List.getD x373 10 (0 : Int)), ((List.getD x373 11 (0 : Int)), ((List.getD x373 12 (0 : Int)), ((List.getD x373 13 (0 : Int)), ((List.getD x373 14 (0 : Int)), (List.take (List.length x367) x367)))))))))))))))))))))
 else none
 else none
 else none
 else none
 else none
 else
 bif (decide ((List.length x367) ≤ (List.length x367))) then 
 some (Sum.inl ((Go.IntKind.wrap .i64 (v346 + (1 : Int))), (v347, (v348, (v349, (v350, (v351, (v352, (v353, (v354, (v355, (v356, (v357, (v358, (v359, (v360, (v361, (v362, (v363, (v364, (List.take (List.length x367) x367)))))))))))))))))))))
 else none
 else none
 else
 bif (decide ((List.length x367) ≤ (List.length x367))) then 
 some (Sum.inl ((Go.IntKind.wrap .i64 (v346 + (1 : Int))), (v347, (v348, (v349, (v350, (v351, (v352, (v353, (v354, (v355, (v356, (v357, (v358, (v359, (v360, (v361, (v362, (v363, (v364, (List.take (List.length x367) x367)))))))))))))))))))))
 else none
 else none
 else none
 else none
 else none
 else
 outO (bif (decide ((List.length v365) ≤ (List.length v365))) then 
 some (Sum.inl (v347, (v348, (v349, (v350, (v351, (v352, (v353, (v354, (v355, (v356, (v357, (v358, (v359, (v360, (v361, (v362, (v363, (v364, (List.take (List.length v365) v365))))))))))))))))))))
 else none)) ((0 : Int), (x342, (x343, (x344, ((List.getD x339 0 (0 : Int)), ((List.getD x339 1 (0 : Int)), ((List.getD x339 2 (0 : Int)), ((List.getD x339 3 (0 : Int)), ((List.getD x339 4 (0 : Int)), ((List.getD x339 5 (0 : Int)), ((List.getD x339 6 (0 : Int)), ((List.getD x339 7 (0 : Int)), ((List.getD x339 8 (0 : Int)), ((List.getD x339 9 (0 : Int)), ((List.getD x339 10 (0 : Int)), ((List.getD x339 11 (0 : Int)), ((List.getD x339 12 (0 : Int)), ((List.getD x339 13 (0 : Int)), ((List.getD x339 14 (0 : Int)), (List.take (List.length v324) v324))))))))))))))))))))
 else none) fun (v377, (v378, (v379, (v380, (v381, (v382, (v383, (v384, (v385, (v386, (v387, (v388, (v389, (v390, (v391, (v392, (v393, (v394, v395)))))))))))))))))) =>
 bif (decide ((List.length v395) ≤ (List.length v395))) then 
 some (Sum.inl (v336, (v337, (v377, (v378, (v379, (v380, (v381, (v382, (v383, (v384, (v385, (v386, (v387, (v388, (v389, (v390, (v391, (v392, (v393, (v394, (List.take (List.length v395) v395))))))))))))))))))))))
 else none
 else none
 else none
 else none) fun (v396, (v397, (v398, (v399, (v400, (v401, (v402, (v403, (v404, (v405, (v406, (v407, (v408, (v409, (v410, (v411, (v412, (v413, (v414, (v415, v416)))))))))))))))))))) =>
 bif (decide ((List.length v416) ≤ (List.length v416))) then 
 some (Sum.inl ((Go.IntKind.wrap .i64 (v305 + (1 : Int))), (v398, (v399, (v400, (v401, (v402, (v403, (v404, (v405, (v406, (v407, (v408, (v409, (v410, (v411, (v412, (v413, (v414, (v415, (List.take (List.length v416) v416)))))))))))))))))))))
 else none
 else
 outO (bif (decide ((List.length v324) ≤ (List.length v324))) then 
 some (Sum.inl (v306, (v307, (v308, (v309, (v310, (v311, (v312, (v313, (v314, (v315, (v316, (v317, (v318, (v319, (v320, (v321, (v322, (v323, (List.take (List.length v324) v324))))))))))))))))))))
 else none)) ((0 : Int), (v285, (v286, (v287, (v288, (v289, (v290, (v291, (v292, (v293, (v294, (v295, (v296, (v297, (v298, (v299, (v300, (v301, (v302, (List.take (List.length v303) v303))))))))))))))))))))
 else none) fun (v418, (v419, (v420, (v421, (v422, (v423, (v424, (v425, (v426, (v427, (v428, (v429, (v430, (v431, (v432, (v433, (v434, (v435, v436)))))))))))))))))) =>
 bif (decide ((List.length v436) ≤ (List.length v436))) then 
 some (Sum.inl (v418, (v419, (v420, (v421, (v422, (v423, (v424, (v425, (v426, (v427, (v428, (v429, (v430, (v431, (v432, (v433, (v434, ((maxA v435 (40000 : Int)), (List.take (List.length v436) v436))))))))))))))))))))
 else none) fun (v437, (v438, (v439, (v440, (v441, (v442, (v443, (v444, (v445, (v446, (v447, (v448, (v449, (v450, (v451, (v452, (v453, (v454, v455)))))))))))))))))) =>
 joinO (loopO (fun (v456, (v457, v458)) =>
 bif (decide (v456 < (((List.length v455) : Nat) : Int))) then
 bif (decide (((0 : Int) ≤ v456) ∧ (v456 < (((List.length v455) : Nat) : Int)))) then 
 bindO v455[(Int.toNat v456)]? fun x459 =>
 bif (decide (x459.2.1 ≠ (1 : Int))) then
 some (Sum.inl ((Go.IntKind.wrap .i64 (v456 + (1 : Int))), (v457, v458)))
 else
 bif (decide (((0 : Int) ≤ v456) ∧ (v456 < (((List.length v455) : Nat) : Int)))) then 
 bindO v455[(Int.toNat v456)]? fun x461 =>
 bif (decide (x461.1 ≤ x3)) then
 some (Sum.inl ((Go.IntKind.wrap .i64 (v456 + (1 : Int))), (v457, v458)))
 else
 bif (decide (v458 ≥ (0 : Int))) then
 bif (decide (((0 : Int) ≤ v456) ∧ (v456 < (((List.length v455) : Nat) : Int)))) then 
 bindO v455[(Int.toNat v456)]? fun x463 =>
 bif (decide (x463.1 ≠ (Go.IntKind.wrap .i64 (v458 + (4000 : Int))))) then
 outO (outO (some Bool.false))
 else
 bif (decide (((0 : Int) ≤ v456) ∧ (v456 < (((List.length v455) : Nat) : Int)))) then 
 bindO v455[(Int.toNat v456)]? fun x465 =>
 some (Sum.inl ((Go.IntKind.wrap .i64 (v456 + (1 : Int))), ((Go.IntKind.wrap .i64 (v457 + (1 : Int))), x465.1)))
 else none
 else none
 else
 bif (decide (((0 : Int) ≤ v456) ∧ (v456 < (((List.length v455) : Nat) : Int)))) then 
 bindO v455[(Int.toNat v456)]? fun x468 =>
 some (Sum.inl ((Go.IntKind.wrap .i64 (v456 + (1 : Int))), ((Go.IntKind.wrap .i64 (v457 + (1 : Int))), x468.1)))
 else none
 else none
 else none
 else
 outO (some (Sum.inl (v457, v458)))) ((0 : Int), ((0 : Int), (-1 : Int)))) fun (v471, v472) =>
 joinO (joinO (loopO (fun (v473, v474) =>
 bif (decide (v473 < (((List.length v455) : Nat) : Int))) then
 bif (decide (((0 : Int) ≤ v473) ∧ (v473 < (((List.length v455) : Nat) : Int)))) then 
 bindO v455[(Int.toNat v473)]? fun x475 =>
 bif (decide (x475.2.1 = (1 : Int))) then
 bif (decide (((0 : Int) ≤ v473) ∧ (v473 < (((List.length v455) : Nat) : Int)))) then 
 bindO v455[(Int.toNat v473)]? fun x476 =>
 bif (decide (x476.1 ≤ x3)) then
 bif (decide (((0 : Int) ≤ v473) ∧ (v473 < (((List.length v455) : Nat) : Int)))) then 
 bindO v455[(Int.toNat v473)]? fun x477 =>
 bif (decide (x477.2.2.1 ≥ (0 : Int))) then
 bif (decide (((0 : Int) ≤ v473) ∧ (v473 < (((List.length v455) : Nat) : Int)))) then 
 bindO v455[(Int.toNat v473)]? fun x478 =>
 bif (decide (x478.2.2.1 ≤ (0 : Int))) then
 some (Sum.inl ((Go.IntKind.wrap .i64 (v473 + (1 : Int))), (Go.IntKind.wrap .i64 (v474 + (1 : Int)))))
 else
 some (Sum.inl ((Go.IntKind.wrap .i64 (v473 + (1 : Int))), v474))
 else none
 else
 some (Sum.inl ((Go.IntKind.wrap .i64 (v473 + (1 : Int))), v474))
 else none
 else
 some (Sum.inl ((Go.IntKind.wrap .i64 (v473 + (1 : Int))), v474))
 else none
 else
 some (Sum.inl ((Go.IntKind.wrap .i64 (v473 + (1 : Int))), v474))
 else none
 else
 outO (some (Sum.inl v474))) ((0 : Int), (0 : Int))) fun v485 =>
 some (Sum.inl v485)) fun v486 =>
 bif (decide (v486 = x304)) then
 bif (decide (v472 < (0 : Int))) then
 bif (decide ((Go.IntKind.wrap .i64 (v471 + x304)) ≤ (11 : Int))) then
 joinO (joinO (loopO (fun (v488, v489) =>
 bif (decide (v488 < (((List.length v455) : Nat) : Int))) then
 bif (decide (((0 : Int) ≤ v488) ∧ (v488 < (((List.length v455) : Nat) : Int)))) then 
 bindO v455[(Int.toNat v488)]? fun x490 =>
 bif (decide (x490.2.1 = (5 : Int))) then
 bif (decide (((0 : Int) ≤ v488) ∧ (v488 < (((List.length v455) : Nat) : Int)))) then 
 bindO v455[(Int.toNat v488)]? fun x491 =>
 bif (decide (x491.1 ≤ (32000 : Int))) then
 bif (decide (((0 : Int) ≤ v488) ∧ (v488 < (((List.length v455) : Nat) : Int)))) then 
 bindO v455[(Int.toNat v488)]? fun x492 =>
 bif (decide (x492.2.2.1 ≥ (0 : Int))) then
 bif (decide (((0 : Int) ≤ v488) ∧ (v488 < (((List.length v455) : Nat) : Int)))) then 
 bindO v455[(Int.toNat v488)]? fun x493 =>
 bif (decide (x493.2.2.1 ≤ (0 : Int))) then
 some (Sum.inl ((Go.IntKind.wrap .i64 (v488 + (1 : Int))), (Go.IntKind.wrap .i64 (v489 + (1 : Int)))))
 else
 some (Sum.inl ((Go.IntKind.wrap .i64 (v488 + (1 : Int))), v489))
 else none
 else
 some (Sum.inl ((Go.IntKind.wrap .i64 (v488 + (1 : Int))), v489))
 else none
 else
 some (Sum.inl ((Go.IntKind.wrap .i64 (v488 + (1 : Int))), v489))
 else none
 else
 some (Sum.inl ((Go.IntKind.wrap .i64 (v488 + (1 : Int))), v489))
 else none
 else
 outO (some (Sum.inl v489))) ((0 : Int), (0 : Int))) fun v500 =>
 some (Sum.inl v500)) fun v501 =>
 bif (decide (v501 = (1 : Int))) then
 joinO (joinO (loopO (fun (v502, v503) =>
 bif (decide (v502 < (((List.length v455) : Nat) : Int))) then
 bif (decide (((0 : Int) ≤ v502) ∧ (v502 < (((List.length v455) : Nat) : Int)))) then 
 bindO v455[(Int.toNat v502)]? fun x504 =>
 bif (decide (x504.2.1 = (7 : Int))) then
 bif (decide (((0 : Int) ≤ v502) ∧ (v502 < (((List.length v455) : Nat) : Int)))) then 
 bindO v455[(Int.toNat v502)]? fun x505 =>
 bif (decide (x505.1 ≤ (31999 : Int))) then
 bif (decide (((0 : Int) ≤ v502) ∧ (v502 < (((List.length v455) : Nat) : Int)))) then 
 bindO v455[(Int.toNat v502)]? fun x506 =>
 bif (decide (x506.2.2.1 ≥ (0 : Int))) then
 bif (decide (((0 : Int) ≤ v502) ∧ (v502 < (((List.length v455) : Nat) : Int)))) then 
 bindO v455[(Int.toNat v502)]? fun x507 =>
 bif (decide (x507.2.2.1 ≤ (0 : Int))) then
 some (Sum.inl ((Go.IntKind.wrap .i64 (v502 + (1 : Int))), (Go.IntKind.wrap .i64 (v503 + (1 : Int)))))
 else
 some (Sum.inl ((Go.IntKind.wrap .i64 (v502 + (1 : Int))), v503))
 else none
 else
 some (Sum.inl ((Go.IntKind.wrap .i64 (v502 + (1 : Int))), v503))
 else none
 else
 some (Sum.inl ((Go.IntKind.wrap .i64 (v502 + (1 : Int))), v503))
 else none
 else
 some (Sum.inl ((Go.IntKind.wrap .i64 (v502 + (1 : Int))), v503))
 else none
 else
 outO (some (Sum.inl v503))) ((0 : Int), (0 : Int))) fun v514 =>
 some (Sum.inl v514)) fun v515 =>
 bif (decide (v515 = (0 : Int))) then
 joinO (joinO (joinO (loopO (fun (v516, v517) =>
 bif (decide (v516 < (((List.length v455) : Nat) : Int))) then
 bif (decide (((0 : Int) ≤ v516) ∧ (v516 < (((List.length v455) : Nat) : Int)))) then 
 bindO v455[(Int.toNat v516)]? fun x518 =>
 bif (decide (x518.2.1 = (7 : Int))) then
 bif (decide (((0 : Int) ≤ v516) ∧ (v516 < (((List.length v455) : Nat) : Int)))) then 
 bindO v455[(Int.toNat v516)]? fun x519 =>
 bif (decide (x519.1 ≤ v454)) then
 bif (decide (((0 : Int) ≤ v516) ∧ (v516 < (((List.length v455) : Nat) : Int)))) then 
 bindO v455[(Int.toNat v516)]? fun x520 =>
 bif (decide (x520.2.2.1 ≥ (0 : Int))) then
 bif (decide (((0 : Int) ≤ v516) ∧ (v516 < (((List.length v455) : Nat) : Int)))) then 
 bindO v455[(Int.toNat v516)]? fun x521 =>
 bif (decide (x521.2.2.1 ≤ (1000 : Int))) then
 some (Sum.inl ((Go.IntKind.wrap .i64 (v516 + (1 : Int))), (Go.IntKind.wrap .i64 (v517 + (1 : Int)))))
 else
 some (Sum.inl ((Go.IntKind.wrap .i64 (v516 + (1 : Int))), v517))
 else none
 else
 some (Sum.inl ((Go.IntKind.wrap .i64 (v516 + (1 : Int))), v517))
 else none
 else
 some (Sum.inl ((Go.IntKind.wrap .i64 (v516 + (1 : Int))), v517))
 else none
 else
 some (Sum.inl ((Go.IntKind.wrap .i64 (v516 + (1 : Int))), v517))
 else none
 else
 outO (some (Sum.inl v517))) ((0 : Int), (0 : Int))) fun v528 =>
 some (Sum.inl v528)) fun v529 =>
 bif (decide (v529 > (1 : Int))) then
 some (Sum.inl Bool.false)
 else
 bif ((decide (v529 = (1 : Int))) != (decide (v437 = (7 : Int)))) then
 some (Sum.inl Bool.false)
 else
 bif (decide (v529 = (0 : Int))) then
 some (Sum.inl Bool.true)
 else
 bif (decide ((((List.length v455) : Nat) : Int) > (0 : Int))) then
 bindO (some (Go.IntKind.wrap .i64 ((((List.length v455) : Nat) : Int) - (1 : Int)))) fun x530 =>
 bif (decide (((0 : Int) ≤ x530) ∧ (x530 < (((List.length v455) : Nat) : Int)))) then 
 bindO v455[(Int.toNat x530)]? fun x531 =>
 some (Sum.inl (decide (x531.2.1 = (7 : Int))))
 else none
 else
 some (Sum.inl Bool.false)) fun v532 =>
 bif v532 then
 some Bool.true
 else
 some Bool.false
 else
 some Bool.false
 else
 some Bool.false
 else
 some Bool.false
 else
 bif (decide ((Go.IntKind.wrap .i64 (v472 + (4000 : Int))) ≥ (32000 : Int))) then
 bif (decide ((Go.IntKind.wrap .i64 (v471 + x304)) ≤ (11 : Int))) then
 joinO (joinO (loopO (fun (v536, v537) =>
 bif (decide (v536 < (((List.length v455) : Nat) : Int))) then
 bif (decide (((0 : Int) ≤ v536) ∧ (v536 < (((List.length v455) : Nat) : Int)))) then 
 bindO v455[(Int.toNat v536)]? fun x538 =>
 bif (decide (x538.2.1 = (5 : Int))) then
 bif (decide (((0 : Int) ≤ v536) ∧ (v536 < (((List.length v455) : Nat) : Int)))) then 
 bindO v455[(Int.toNat v536)]? fun x539 =>
 bif (decide (x539.1 ≤ (32000 : Int))) then
 bif (decide (((0 : Int) ≤ v536) ∧ (v536 < (((List.length v455) : Nat) : Int)))) then 
 bindO v455[(Int.toNat v536)]? fun x540 =>
 bif (decide (x540.2.2.1 ≥ (0 : Int))) then
 bif (decide (((0 : Int) ≤ v536) ∧ (v536 < (((List.length v455) : Nat) : Int)))) then 
 bindO v455[(Int.toNat v536)]? fun x541 =>
 bif (decide (x541.2.2.1 ≤ (0 : Int))) then
 some (Sum.inl ((Go.IntKind.wrap .i64 (v536 + (1 : Int))), (Go.IntKind.wrap .i64 (v537 + (1 : Int)))))
 else
 some (Sum.inl ((Go.IntKind.wrap .i64 (v536 + (1 : Int))), v537))
 else none
 else
 some (Sum.inl ((Go.IntKind.wrap .i64 (v536 + (1 : Int))), v537))
 else none
 else
 some (Sum.inl ((Go.IntKind.wrap .i64 (v536 + (1 : Int))), v537))
 else none
 else
 some (Sum.inl ((Go.IntKind.wrap .i64 (v536 + (1 : Int))), v537))
 else none
 else
 outO (some (Sum.inl v537))) ((0 : Int), (0 : Int))) fun v548 =>
 some (Sum.inl v548)) fun v549 =>
 bif (decide (v549 = (1 : Int))) then
 joinO (joinO (loopO (fun (v550, v551) =>
 bif (decide (v550 < (((List.length v455) : Nat) : Int))) then
 bif (decide (((0 : Int) ≤ v550) ∧ (v550 < (((List.length v455) : Nat) : Int)))) then 
 bindO v455[(Int.toNat v550)]? fun x552 =>
 bif (decide (x552.2.1 = (7 : Int))) then
 bif (decide (((0 : Int) ≤ v550) ∧ (v550 < (((List.length v455) : Nat) : Int)))) then 
 bindO v455[(Int.toNat v550)]? fun x553 =>
 bif (decide (x553.1 ≤ (31999 : Int))) then
 bif (decide (((0 : Int) ≤ v550) ∧ (v550 < (((List.length v455) : Nat) : Int)))) then 
 bindO v455[(Int.toNat v550)]? fun x554 =>
 bif (decide (x554.2.2.1 ≥ (0 : Int))) then
 bif (decide (((0 : Int) ≤ v550) ∧ (v550 < (((List.length v455) : Nat) : Int)))) then 
 bindO v455[(Int.toNat v550)]? fun x555 =>
 bif (decide (x555.2.2.1 ≤ (0 : Int))) then
 some (Sum.inl ((Go.IntKind.wrap .i64 (v550 + (1 : Int))), (Go.IntKind.wrap .i64 (v551 + (1 : Int)))))
 else
 some (Sum.inl ((Go.IntKind.wrap .i64 (v550 + (1 : Int))), v551))
 else none
 else
 some (Sum.inl ((Go.IntKind.wrap .i64 (v550 + (1 : Int))), v551))
 else none
 else
 some (Sum.inl ((Go.IntKind.wrap .i64 (v550 + (1 : Int))), v551))
 else none
 else
 some (Sum.inl ((Go.IntKind.wrap .i64 (v550 + (1 : Int))), v551))
 else none
 else
 outO (some (Sum.inl v551))) ((0 : Int), (0 : Int))) fun v562 =>
 some (Sum.inl v562)) fun v563 =>
 bif (decide (v563 = (0 : Int))) then
 joinO (joinO (joinO (loopO (fun (v564, v565) =>
 bif (decide (v564 < (((List.length v455) : Nat) : Int))) then
 bif (decide (((0 : Int) ≤ v564) ∧ (v564 < (((List.length v455) : Nat) : Int)))) then 
 bindO v455[(Int.toNat v564)]? fun x566 =>
 bif (decide (x566.2.1 = (7 : Int))) then
 bif (decide (((0 : Int) ≤ v564) ∧ (v564 < (((List.length v455) : Nat) : Int)))) then 
 bindO v455[(Int.toNat v564)]? fun x567 =>
 bif (decide (x567.1 ≤ v454)) then
 bif (decide (((0 : Int) ≤ v564) ∧ (v564 < (((List.length v455) : Nat) : Int)))) then 
 bindO v455[(Int.toNat v564)]? fun x568 =>
 bif (decide (x568.2.2.1 ≥ (0 : Int))) then
 bif (decide (((0 : Int) ≤ v564) ∧ (v564 < (((List.length v455) : Nat) : Int)))) then 
 bindO v455[(Int.toNat v564)]? fun x569 =>
 bif (decide (x569.2.2.1 ≤ (1000 : Int))) then
 some (Sum.inl ((Go.IntKind.wrap .i64 (v564 + (1 : Int))), (Go.IntKind.wrap .i64 (v565 + (1 : Int)))))
 else
 some (Sum.inl ((Go.IntKind.wrap .i64 (v564 + (1 : Int))), v565))
 else none
 else
 some (Sum.inl ((Go.IntKind.wrap .i64 (v564 + (1 : Int))), v565))
 else none
 else
 some (Sum.inl ((Go.IntKind.wrap .i64 (v564 + (1 : Int))), v565))
 else none
 else
 some (Sum.inl ((Go.IntKind.wrap .i64 (v564 + (1 : Int))), v565))
 else none
 else
 outO (some (Sum.inl v565))) ((0 : Int), (0 : Int))) fun v576 =>
 some (Sum.inl v576)) fun v577 =>
 bif (decide (v577 > (1 : Int))) then
 some (Sum.inl Bool.false)
 else
 bif ((decide (v577 = (1 : Int))) != (decide (v437 = (7 : Int)))) then
 some (Sum.inl Bool.false)
 else
 bif (decide (v577 = (0 : Int))) then
 some (Sum.inl Bool.true)
 else
 bif (decide ((((List.length v455) : Nat) : Int) > (0 : Int))) then
 bindO (some (Go.IntKind.wrap .i64 ((((List.length v455) : Nat) : Int) - (1 : Int)))) fun x578 =>
 bif (decide (((0 : Int) ≤ x578) ∧ (x578 < (((List.length v455) : Nat) : Int)))) then 
 bindO v455[(Int.toNat x578)]? fun x579 =>
 some (Sum.inl (decide (x579.2.1 = (7 : Int))))
 else none
 else
 some (Sum.inl Bool.false)) fun v580 =>
 bif v580 then
 some Bool.true
 else
 some Bool.false
 else
 some Bool.false
 else
 some Bool.false
 else
 some Bool.false
 else
 some Bool.false
 else
 some Bool.false
theorem slow_eq (a1 : Int) : dialtonelaw13_ClientSlow a1 = slowB (Int.tmod (Go.IntKind.wrap .i64 a1) (32000 : Int)) := rfl
def slowF (q : Int → Bool) (T : Int) : Option Bool :=
  joinO (loopF (fun (v4, (v5, (v6, (v7, (v8, (v9, (v10, (v11, (v12, (v13, (v14, (v15, (v16, (v17, (v18, (v19, (v20, (v21, v22)))))))))))))))))) =>
    bif (decide (v4 < (14 : Int))) then
     bif (decide (((0 : Int) ≤ v4) ∧ (v4 < (14 : Int)))) then 
      bif (decide ((((Int.toNat v4) * 1) + 1) ≤ 15)) then 
       bindO (some (putL (v8 :: (v9 :: (v10 :: (v11 :: (v12 :: (v13 :: (v14 :: (v15 :: (v16 :: (v17 :: (v18 :: (v19 :: (v20 :: (v21 :: (v22 :: ([] : List Int)))))))))))))))) ((Int.toNat v4) * 1) ((-1 : Int) :: ([] : List Int)))) fun x23 =>
       some (Sum.inl ((Go.IntKind.wrap .i64 (v4 + (1 : Int))), (v5, (v6, (v7, ((List.getD x23 0 (0 : Int)), ((List.getD x23 1 (0 : Int)), ((List.getD x23 2 (0 : Int)), ((List.getD x23 3 (0 : Int)), ((List.getD x23 4 (0 : Int)), ((List.getD x23 5 (0 : Int)), ((List.getD x23 6 (0 : Int)), ((List.getD x23 7 (0 : Int)), ((List.getD x23 8 (0 : Int)), ((List.getD x23 9 (0 : Int)), ((List.getD x23 10 (0 : Int)), ((List.getD x23 11 (0 : Int)), ((List.getD x23 12 (0 : Int)), ((List.getD x23 13 (0 : Int)), (List.getD x23 14 (0 : Int)))))))))))))))))))))
      else none
     else none
    else
     outO (some (Sum.inl (v5, (v6, (v7, (v8, (v9, (v10, (v11, (v12, (v13, (v14, (v15, (v16, (v17, (v18, (v19, (v20, (v21, v22)))))))))))))))))))) 1000 ((0 : Int), ((0 : Int), ((0 : Int), ((0 : Int), ((0 : Int), ((0 : Int), ((0 : Int), ((0 : Int), ((0 : Int), ((0 : Int), ((0 : Int), ((0 : Int), ((0 : Int), ((0 : Int), ((0 : Int), ((0 : Int), ((0 : Int), ((0 : Int), (0 : Int)))))))))))))))))))) fun (v25, (v26, (v27, (v28, (v29, (v30, (v31, (v32, (v33, (v34, (v35, (v36, (v37, (v38, (v39, (v40, (v41, v42))))))))))))))))) =>
  bindO (client_Start_F ()) fun ((x44, (x45, x46)), x47) =>
  joinO (loopF (fun (v48, (v49, (v50, (v51, (v52, (v53, (v54, (v55, (v56, (v57, (v58, (v59, (v60, (v61, (v62, (v63, (v64, (v65, (v66, v67))))))))))))))))))) =>
    bif (decide (v48 < (((List.length x47) : Nat) : Int))) then
     bif (decide (((0 : Int) ≤ v48) ∧ (v48 < (((List.length x47) : Nat) : Int)))) then 
      bindO x47[(Int.toNat v48)]? fun x68 =>
      bif (decide ((List.length v67) ≤ (List.length v67))) then 
       bif (decide (((List.length ((List.take (List.length v67) v67) ++ ((v66, (x68.1, (x68.2.1, (x68.2.2.1, x68.2.2.2)))) :: ([] : List (Int × (Int × (Int × (Int × Int)))))))) * 40) ≤ 140737488355328)) then 
        bindO (some ((List.take (List.length v67) v67) ++ ((v66, (x68.1, (x68.2.1, (x68.2.2.1, x68.2.2.2)))) :: ([] : List (Int × (Int × (Int × (Int × Int)))))))) fun x69 =>
        bif (decide (((0 : Int) ≤ v48) ∧ (v48 < (((List.length x47) : Nat) : Int)))) then 
         bindO x47[(Int.toNat v48)]? fun x70 =>
         bif (decide (x70.1 = (4 : Int))) then
          bif (decide (((0 : Int) ≤ v48) ∧ (v48 < (((List.length x47) : Nat) : Int)))) then 
           bindO x47[(Int.toNat v48)]? fun x71 =>
           bif (decide (x71.2.2.1 < (14 : Int))) then
            bif (decide (((0 : Int) ≤ v48) ∧ (v48 < (((List.length x47) : Nat) : Int)))) then 
             bindO x47[(Int.toNat v48)]? fun x72 =>
             bif (decide (((0 : Int) ≤ v48) ∧ (v48 < (((List.length x47) : Nat) : Int)))) then 
              bindO x47[(Int.toNat v48)]? fun x73 =>
              bif (decide (((0 : Int) ≤ x72.2.2.1) ∧ (x72.2.2.1 < (14 : Int)))) then 
               bif (decide ((((Int.toNat x72.2.2.1) * 1) + 1) ≤ 15)) then 
                bindO (some (putL (v52 :: (v53 :: (v54 :: (v55 :: (v56 :: (v57 :: (v58 :: (v59 :: (v60 :: (v61 :: (v62 :: (v63 :: (v64 :: (v65 :: (v66 :: ([] : List Int)))))))))))))))) ((Int.toNat x72.2.2.1) * 1) ((Go.IntKind.wrap .i64 (v66 + (maxA (1 : Int) x73.2.2.2))) :: ([] : List Int)))) fun x75 =>
                bif (decide ((List.length x69) ≤ (List.length x69))) then 
                 some (Sum.inl ((Go.IntKind.wrap .i64 (v48 + (1 : Int))), (v49, (v50, (v51, ((List.getD x75 0 (0 : Int)), ((List.getD x75 1 (0 : Int)), ((List.getD x75 2 (0 : Int)), ((List.getD x75 3 (0 : Int)), ((List.getD x75 4 (0 : Int)), ((List.getD x75 5 (0 : Int)), ((List.getD x75 6 (0 : Int)), ((List.getD x75 7 (0 : Int)), ((List.getD x75 8 (0 : Int)), ((List.getD x75 9 (0 : Int)), ((List.getD x75 10 (0 : Int)), ((List.getD x75 11 (0 : Int)), ((List.getD x75 12 (0 : Int)), ((List.getD x75 13 (0 : Int)), ((List.getD x75 14 (0 : Int)), (List.take (List.length x69) x69)))))))))))))))))))))
                else none
               else none
              else none
             else none
            else none
           else
            bif (decide ((List.length x69) ≤ (List.length x69))) then 
             some (Sum.inl ((Go.IntKind.wrap .i64 (v48 + (1 : Int))), (v49, (v50, (v51, (v52, (v53, (v54, (v55, (v56, (v57, (v58, (v59, (v60, (v61, (v62, (v63, (v64, (v65, (v66, (List.take (List.length x69) x69)))))))))))))))))))))
            else none
          else none
         else
          bif (decide ((List.length x69) ≤ (List.length x69))) then 
           some (Sum.inl ((Go.IntKind.wrap .i64 (v48 + (1 : Int))), (v49, (v50, (v51, (v52, (v53, (v54, (v55, (v56, (v57, (v58, (v59, (v60, (v61, (v62, (v63, (v64, (v65, (v66, (List.take (List.length x69) x69)))))))))))))))))))))
          else none
        else none
       else none
      else none
     else none
    else
     outO (bif (decide ((List.length v67) ≤ (List.length v67))) then 
      some (Sum.inl (v49, (v50, (v51, (v52, (v53, (v54, (v55, (v56, (v57, (v58, (v59, (v60, (v61, (v62, (v63, (v64, (v65, (v66, (List.take (List.length v67) v67))))))))))))))))))))
     else none)) 1000 ((0 : Int), (x44, (x45, (x46, (v28, (v29, (v30, (v31, (v32, (v33, (v34, (v35, (v36, (v37, (v38, (v39, (v40, (v41, (v42, ([] : List (Int × (Int × (Int × (Int × Int))))))))))))))))))))))))) fun (v79, (v80, (v81, (v82, (v83, (v84, (v85, (v86, (v87, (v88, (v89, (v90, (v91, (v92, (v93, (v94, (v95, (v96, v97)))))))))))))))))) =>
  joinO (joinO (bif (decide ((List.length v97) ≤ (List.length v97))) then 
     loopF (fun (v98, (v99, (v100, (v101, (v102, (v103, (v104, (v105, (v106, (v107, (v108, (v109, (v110, (v111, (v112, (v113, (v114, (v115, (v116, v117))))))))))))))))))) =>
      bif (decide (v98 < (200 : Int))) then
       joinO (joinO (loopF (fun (v118, v119) =>
          bif (decide (v118 < (14 : Int))) then
           bif (decide (((0 : Int) ≤ v118) ∧ (v118 < (14 : Int)))) then 
            bindO (v102 :: (v103 :: (v104 :: (v105 :: (v106 :: (v107 :: (v108 :: (v109 :: (v110 :: (v111 :: (v112 :: (v113 :: (v114 :: (v115 :: (v116 :: ([] : List Int))))))))))))))))[(Int.toNat v118)]? fun x120 =>
            bif (decide (x120 ≥ (0 : Int))) then
             bif (decide (((0 : Int) ≤ v118) ∧ (v118 < (14 : Int)))) then 
              bindO (v102 :: (v103 :: (v104 :: (v105 :: (v106 :: (v107 :: (v108 :: (v109 :: (v110 :: (v111 :: (v112 :: (v113 :: (v114 :: (v115 :: (v116 :: ([] : List Int))))))))))))))))[(Int.toNat v118)]? fun x121 =>
              bif (q x121) then
               bif (decide (v119 < (0 : Int))) then
                some (Sum.inl ((Go.IntKind.wrap .i64 (v118 + (1 : Int))), v118))
               else
                bif (decide (((0 : Int) ≤ v118) ∧ (v118 < (14 : Int)))) then 
                 bindO (v102 :: (v103 :: (v104 :: (v105 :: (v106 :: (v107 :: (v108 :: (v109 :: (v110 :: (v111 :: (v112 :: (v113 :: (v114 :: (v115 :: (v116 :: ([] : List Int))))))))))))))))[(Int.toNat v118)]? fun x123 =>
                 bif (decide (((0 : Int) ≤ v119) ∧ (v119 < (14 : Int)))) then 
                  bindO (v102 :: (v103 :: (v104 :: (v105 :: (v106 :: (v107 :: (v108 :: (v109 :: (v110 :: (v111 :: (v112 :: (v113 :: (v114 :: (v115 :: (v116 :: ([] : List Int))))))))))))))))[(Int.toNat v119)]? fun x124 =>
                  bif (decide (x123 < x124)) then
                   some (Sum.inl ((Go.IntKind.wrap .i64 (v118 + (1 : Int))), v118))
                  else
                   some (Sum.inl ((Go.IntKind.wrap .i64 (v118 + (1 : Int))), v119))
                 else none
                else none
              else
               some (Sum.inl ((Go.IntKind.wrap .i64 (v118 + (1 : Int))), v119))
             else none
            else
             some (Sum.inl ((Go.IntKind.wrap .i64 (v118 + (1 : Int))), v119))
           else none
          else
           outO (some (Sum.inl (v118, v119)))) 1000 ((0 : Int), (-1 : Int))) fun (v129, v130) =>
        bif (decide (v130 < (0 : Int))) then
         outO (outO (bif (decide ((List.length v117) ≤ (List.length v117))) then 
          some (Sum.inl (v99, (v100, (v101, (v102, (v103, (v104, (v105, (v106, (v107, (v108, (v109, (v110, (v111, (v112, (v113, (v114, (v115, (v116, (List.take (List.length v117) v117))))))))))))))))))))
         else none))
        else
         bif (decide (((0 : Int) ≤ v130) ∧ (v130 < (14 : Int)))) then 
          bindO (v102 :: (v103 :: (v104 :: (v105 :: (v106 :: (v107 :: (v108 :: (v109 :: (v110 :: (v111 :: (v112 :: (v113 :: (v114 :: (v115 :: (v116 :: ([] : List Int))))))))))))))))[(Int.toNat v130)]? fun x131 =>
          bif (decide (((0 : Int) ≤ v130) ∧ (v130 < (14 : Int)))) then 
           bif (decide ((((Int.toNat v130) * 1) + 1) ≤ 15)) then 
            bindO (some (putL (v102 :: (v103 :: (v104 :: (v105 :: (v106 :: (v107 :: (v108 :: (v109 :: (v110 :: (v111 :: (v112 :: (v113 :: (v114 :: (v115 :: (x131 :: ([] : List Int)))))))))))))))) ((Int.toNat v130) * 1) ((-1 : Int) :: ([] : List Int)))) fun x132 =>
            bindO (client_Step_F ((v99, (v100, v101)), ((5 : Int), ((0 : Int), (Go.IntKind.wrap .u8 v130))))) fun ((x135, (x136, x137)), x138) =>
            joinO (bif (decide ((List.length v117) ≤ (List.length v117))) then 
              loopF (fun (v139, (v140, (v141, (v142, (v143, (v144, (v145, (v146, (v147, (v148, (v149, (v150, (v151, (v152, (v153, (v154, (v155, (v156, (v157, v158))))))))))))))))))) =>
               bif (decide (v139 < (((List.length x138) : Nat) : Int))) then
                bif (decide (((0 : Int) ≤ v139) ∧ (v139 < (((List.length x138) : Nat) : Int)))) then 
                 bindO x138[(Int.toNat v139)]? fun x159 =>
                 bif (decide ((List.length v158) ≤ (List.length v158))) then 
                  bif (decide (((List.length ((List.take (List.length v158) v158) ++ ((v157, (x159.1, (x159.2.1, (x159.2.2.1, x159.2.2.2)))) :: ([] : List (Int × (Int × (Int × (Int × Int)))))))) * 40) ≤ 140737488355328)) then 
                   bindO (some ((List.take (List.length v158) v158) ++ ((v157, (x159.1, (x159.2.1, (x159.2.2.1, x159.2.2.2)))) :: ([] : List (Int × (Int × (Int × (Int × Int)))))))) fun x160 =>
                   bif (decide (((0 : Int) ≤ v139) ∧ (v139 < (((List.length x138) : Nat) : Int)))) then 
                    bindO x138[(Int.toNat v139)]? fun x161 =>
                    bif (decide (x161.1 = (4 : Int))) then
                     bif (decide (((0 : Int) ≤ v139) ∧ (v139 < (((List.length x138) : Nat) : Int)))) then 
                      bindO x138[(Int.toNat v139)]? fun x162 =>
                      bif (decide (x162.2.2.1 < (14 : Int))) then
                       bif (decide (((0 : Int) ≤ v139) ∧ (v139 < (((List.length x138) : Nat) : Int)))) then 
                        bindO x138[(Int.toNat v139)]? fun x163 =>
                        bif (decide (((0 : Int) ≤ v139) ∧ (v139 < (((List.length x138) : Nat) : Int)))) then 
                         bindO x138[(Int.toNat v139)]? fun x164 =>
                         bif (decide (((0 : Int) ≤ x163.2.2.1) ∧ (x163.2.2.1 < (14 : Int)))) then 
                          bif (decide ((((Int.toNat x163.2.2.1) * 1) + 1) ≤ 15)) then 
                           bindO (some (putL (v143 :: (v144 :: (v145 :: (v146 :: (v147 :: (v148 :: (v149 :: (v150 :: (v151 :: (v152 :: (v153 :: (v154 :: (v155 :: (v156 :: (v157 :: ([] : List Int)))))))))))))))) ((Int.toNat x163.2.2.1) * 1) ((Go.IntKind.wrap .i64 (v157 + (maxA (1 : Int) x164.2.2.2))) :: ([] : List Int)))) fun x166 =>
                           bif (decide ((List.length x160) ≤ (List.length x160))) then 
                            some (Sum.inl ((Go.IntKind.wrap .i64 (v139 + (1 : Int))), (v140, (v141, (v142, ((List.getD x166 0 (0 : Int)), ((List.getD x166 1 (0 : Int)), ((List.getD x166 2 (0 : Int)), ((List.getD x166 3 (0 : Int)), ((List.getD x166 4 (0 : Int)), ((List.getD x166 5 (0 : Int)), ((List.getD x166 6 (0 : Int)), ((List.getD x166 7 (0 : Int)), ((List.getD x166 8 (0 : Int)), ((List.getD x166 9 (0 : Int)), ((List.getD x166 10 (0 : Int)), ((List.getD x166 11 (0 : Int)), ((List.getD x166 12 (0 : Int)), ((List.getD x166 13 (0 : Int)), ((List.getD x166 14 (0 : Int)), (List.take (List.length x160) x160)))))))))))))))))))))
                           else none
                          else none
                         else none
                        else none
                       else none
                      else
                       bif (decide ((List.length x160) ≤ (List.length x160))) then 
                        some (Sum.inl ((Go.IntKind.wrap .i64 (v139 + (1 : Int))), (v140, (v141, (v142, (v143, (v144, (v145, (v146, (v147, (v148, (v149, (v150, (v151, (v152, (v153, (v154, (v155, (v156, (v157, (List.take (List.length x160) x160)))))))))))))))))))))
                       else none
                     else none
                    else
                     bif (decide ((List.length x160) ≤ (List.length x160))) then 
                      some (Sum.inl ((Go.IntKind.wrap .i64 (v139 + (1 : Int))), (v140, (v141, (v142, (v143, (v144, (v145, (v146, (v147, (v148, (v149, (v150, (v151, (v152, (v153, (v154, (v155, (v156, (v157, (List.take (List.length x160) x160)))))))))))))))))))))
                     else none
                   else none
                  else none
                 else none
                else none
               else
                outO (bif (decide ((List.length v158) ≤ (List.length v158))) then 
                 some (Sum.inl (v140, (v141, (v142, (v143, (v144, (v145, (v146, (v147, (v148, (v149, (v150, (v151, (v152, (v153, (v154, (v155, (v156, (v157, (List.take (List.length v158) v158))))))))))))))))))))
                else none)) 1000 ((0 : Int), (x135, (x136, (x137, ((List.getD x132 0 (0 : Int)), ((List.getD x132 1 (0 : Int)), ((List.getD x132 2 (0 : Int)), ((List.getD x132 3 (0 : Int)), ((List.getD x132 4 (0 : Int)), ((List.getD x132 5 (0 : Int)), ((List.getD x132 6 (0 : Int)), ((List.getD x132 7 (0 : Int)), ((List.getD x132 8 (0 : Int)), ((List.getD x132 9 (0 : Int)), ((List.getD x132 10 (0 : Int)), ((List.getD x132 11 (0 : Int)), ((List.getD x132 12 (0 : Int)), ((List.getD x132 13 (0 : Int)), ((List.getD x132 14 (0 : Int)), (List.take (List.length v117) v117))))))))))))))))))))
             else none) fun (v170, (v171, (v172, (v173, (v174, (v175, (v176, (v177, (v178, (v179, (v180, (v181, (v182, (v183, (v184, (v185, (v186, (v187, v188)))))))))))))))))) =>
            bif (decide ((List.length v188) ≤ (List.length v188))) then 
             some (Sum.inl (v129, (v130, (v170, (v171, (v172, (v173, (v174, (v175, (v176, (v177, (v178, (v179, (v180, (v181, (v182, (v183, (v184, (v185, (v186, (v187, (List.take (List.length v188) v188))))))))))))))))))))))
            else none
           else none
          else none
         else none) fun (v189, (v190, (v191, (v192, (v193, (v194, (v195, (v196, (v197, (v198, (v199, (v200, (v201, (v202, (v203, (v204, (v205, (v206, (v207, (v208, v209)))))))))))))))))))) =>
       bif (decide ((List.length v209) ≤ (List.length v209))) then 
        some (Sum.inl ((Go.IntKind.wrap .i64 (v98 + (1 : Int))), (v191, (v192, (v193, (v194, (v195, (v196, (v197, (v198, (v199, (v200, (v201, (v202, (v203, (v204, (v205, (v206, (v207, (v208, (List.take (List.length v209) v209)))))))))))))))))))))
       else none
      else
       outO (bif (decide ((List.length v117) ≤ (List.length v117))) then 
        some (Sum.inl (v99, (v100, (v101, (v102, (v103, (v104, (v105, (v106, (v107, (v108, (v109, (v110, (v111, (v112, (v113, (v114, (v115, (v116, (List.take (List.length v117) v117))))))))))))))))))))
       else none)) 1000 ((0 : Int), (v79, (v80, (v81, (v82, (v83, (v84, (v85, (v86, (v87, (v88, (v89, (v90, (v91, (v92, (v93, (v94, (v95, (v96, (List.take (List.length v97) v97))))))))))))))))))))
    else none) fun (v211, (v212, (v213, (v214, (v215, (v216, (v217, (v218, (v219, (v220, (v221, (v222, (v223, (v224, (v225, (v226, (v227, (v228, v229)))))))))))))))))) =>
   bif (decide ((List.length v229) ≤ (List.length v229))) then 
    some (Sum.inl (v211, (v212, (v213, (v214, (v215, (v216, (v217, (v218, (v219, (v220, (v221, (v222, (v223, (v224, (v225, (v226, (v227, ((maxA v228 T), (List.take (List.length v229) v229))))))))))))))))))))
   else none) fun (v230, (v231, (v232, (v233, (v234, (v235, (v236, (v237, (v238, (v239, (v240, (v241, (v242, (v243, (v244, (v245, (v246, (v247, v248)))))))))))))))))) =>
  bindO (client_Step_F ((v230, (v231, v232)), ((2 : Int), ((183 : Int), (0 : Int))))) fun ((x250, (x251, x252)), x253) =>
  joinO (bif (decide ((List.length v248) ≤ (List.length v248))) then 
    loopF (fun (v254, (v255, (v256, (v257, (v258, (v259, (v260, (v261, (v262, (v263, (v264, (v265, (v266, (v267, (v268, (v269, (v270, (v271, (v272, v273))))))))))))))))))) =>
     bif (decide (v254 < (((List.length x253) : Nat) : Int))) then
      bif (decide (((0 : Int) ≤ v254) ∧ (v254 < (((List.length x253) : Nat) : Int)))) then 
       bindO x253[(Int.toNat v254)]? fun x274 =>
       bif (decide ((List.length v273) ≤ (List.length v273))) then 
        bif (decide (((List.length ((List.take (List.length v273) v273) ++ ((v272, (x274.1, (x274.2.1, (x274.2.2.1, x274.2.2.2)))) :: ([] : List (Int × (Int × (Int × (Int × Int)))))))) * 40) ≤ 140737488355328)) then 
         bindO (some ((List.take (List.length v273) v273) ++ ((v272, (x274.1, (x274.2.1, (x274.2.2.1, x274.2.2.2)))) :: ([] : List (Int × (Int × (Int × (Int × Int)))))))) fun x275 =>
         bif (decide (((0 : Int) ≤ v254) ∧ (v254 < (((List.length x253) : Nat) : Int)))) then 
          bindO x253[(Int.toNat v254)]? fun x276 =>
          bif (decide (x276.1 = (4 : Int))) then
           bif (decide (((0 : Int) ≤ v254) ∧ (v254 < (((List.length x253) : Nat) : Int)))) then 
            bindO x253[(Int.toNat v254)]? fun x277 =>
            bif (decide (x277.2.2.1 < (14 : Int))) then
             bif (decide (((0 : Int) ≤ v254) ∧ (v254 < (((List.length x253) : Nat) : Int)))) then 
              bindO x253[(Int.toNat v254)]? fun x278 =>
              bif (decide (((0 : Int) ≤ v254) ∧ (v254 < (((List.length x253) : Nat) : Int)))) then 
               bindO x253[(Int.toNat v254)]? fun x279 =>
               bif (decide (((0 : Int) ≤ x278.2.2.1) ∧ (x278.2.2.1 < (14 : Int)))) then 
                bif (decide ((((Int.toNat x278.2.2.1) * 1) + 1) ≤ 15)) then 
                 bindO (some (putL (v258 :: (v259 :: (v260 :: (v261 :: (v262 :: (v263 :: (v264 :: (v265 :: (v266 :: (v267 :: (v268 :: (v269 :: (v270 :: (v271 :: (v272 :: ([] : List Int)))))))))))))))) ((Int.toNat x278.2.2.1) * 1) ((Go.IntKind.wrap .i64 (v272 + (maxA (1 : Int) x279.2.2.2))) :: ([] : List Int)))) fun x281 =>
                 bif (decide ((List.length x275) ≤ (List.length x275))) then 
                  some (Sum.inl ((Go.IntKind.wrap .i64 (v254 + (1 : Int))), (v255, (v256, (v257, ((List.getD x281 0 (0 : Int)), ((List.getD x281 1 (0 : Int)), ((List.getD x281 2 (0 : Int)), ((List.getD x281 3 (0 : Int)), ((List.getD x281 4 (0 : Int)), ((List.getD x281 5 (0 : Int)), ((List.getD x281 6 (0 : Int)), ((List.getD x281 7 (0 : Int)), ((List.getD x281 8 (0 : Int)), ((List.getD x281 9 (0 : Int)), ((List.getD x281 10 (0 : Int)), ((List.getD x281 11 (0 : Int)), ((List.getD x281 12 (0 : Int)), ((List.getD x281 13 (0 : Int)), ((List.getD x281 14 (0 : Int)), (List.take (List.length x275) x275)))))))))))))))))))))
                 else none
                else none
               else none
              else none
             else none
            else
             bif (decide ((List.length x275) ≤ (List.length x275))) then 
              some (Sum.inl ((Go.IntKind.wrap .i64 (v254 + (1 : Int))), (v255, (v256, (v257, (v258, (v259, (v260, (v261, (v262, (v263, (v264, (v265, (v266, (v267, (v268, (v269, (v270, (v271, (v272, (List.take (List.length x275) x275)))))))))))))))))))))
             else none
           else none
          else
           bif (decide ((List.length x275) ≤ (List.length x275))) then 
            some (Sum.inl ((Go.IntKind.wrap .i64 (v254 + (1 : Int))), (v255, (v256, (v257, (v258, (v259, (v260, (v261, (v262, (v263, (v264, (v265, (v266, (v267, (v268, (v269, (v270, (v271, (v272, (List.take (List.length x275) x275)))))))))))))))))))))
           else none
         else none
        else none
       else none
      else none
     else
      outO (bif (decide ((List.length v273) ≤ (List.length v273))) then 
       some (Sum.inl (v255, (v256, (v257, (v258, (v259, (v260, (v261, (v262, (v263, (v264, (v265, (v266, (v267, (v268, (v269, (v270, (v271, (v272, (List.take (List.length v273) v273))))))))))))))))))))
      else none)) 1000 ((0 : Int), (x250, (x251, (x252, (v233, (v234, (v235, (v236, (v237, (v238, (v239, (v240, (v241, (v242, (v243, (v244, (v245, (v246, (v247, (List.take (List.length v248) v248))))))))))))))))))))
   else none) fun (v285, (v286, (v287, (v288, (v289, (v290, (v291, (v292, (v293, (v294, (v295, (v296, (v297, (v298, (v299, (v300, (v301, (v302, v303)))))))))))))))))) =>
  bindO (Copies_F q) fun x304 =>
  joinO (joinO (bif (decide ((List.length v303) ≤ (List.length v303))) then 
     loopF (fun (v305, (v306, (v307, (v308, (v309, (v310, (v311, (v312, (v313, (v314, (v315, (v316, (v317, (v318, (v319, (v320, (v321, (v322, (v323, v324))))))))))))))))))) =>
      bif (decide (v305 < (200 : Int))) then
       joinO (joinO (loopF (fun (v325, v326) =>
          bif (decide (v325 < (14 : Int))) then
           bif (decide (((0 : Int) ≤ v325) ∧ (v325 < (14 : Int)))) then 
            bindO (v309 :: (v310 :: (v311 :: (v312 :: (v313 :: (v314 :: (v315 :: (v316 :: (v317 :: (v318 :: (v319 :: (v320 :: (v321 :: (v322 :: (v323 :: ([] : List Int))))))))))))))))[(Int.toNat v325)]? fun x327 =>
            bif (decide (x327 ≥ (0 : Int))) then
             bif (decide (((0 : Int) ≤ v325) ∧ (v325 < (14 : Int)))) then 
              bindO (v309 :: (v310 :: (v311 :: (v312 :: (v313 :: (v314 :: (v315 :: (v316 :: (v317 :: (v318 :: (v319 :: (v320 :: (v321 :: (v322 :: (v323 :: ([] : List Int))))))))))))))))[(Int.toNat v325)]? fun x328 =>
              bif (decide (x328 ≤ (40000 : Int))) then
               bif (decide (v326 < (0 : Int))) then
                some (Sum.inl ((Go.IntKind.wrap .i64 (v325 + (1 : Int))), v325))
               else
                bif (decide (((0 : Int) ≤ v325) ∧ (v325 < (14 : Int)))) then 
                 bindO (v309 :: (v310 :: (v311 :: (v312 :: (v313 :: (v314 :: (v315 :: (v316 :: (v317 :: (v318 :: (v319 :: (v320 :: (v321 :: (v322 :: (v323 :: ([] : List Int))))))))))))))))[(Int.toNat v325)]? fun x330 =>
                 bif (decide (((0 : Int) ≤ v326) ∧ (v326 < (14 : Int)))) then 
                  bindO (v309 :: (v310 :: (v311 :: (v312 :: (v313 :: (v314 :: (v315 :: (v316 :: (v317 :: (v318 :: (v319 :: (v320 :: (v321 :: (v322 :: (v323 :: ([] : List Int))))))))))))))))[(Int.toNat v326)]? fun x331 =>
                  bif (decide (x330 < x331)) then
                   some (Sum.inl ((Go.IntKind.wrap .i64 (v325 + (1 : Int))), v325))
                  else
                   some (Sum.inl ((Go.IntKind.wrap .i64 (v325 + (1 : Int))), v326))
                 else none
                else none
              else
               some (Sum.inl ((Go.IntKind.wrap .i64 (v325 + (1 : Int))), v326))
             else none
            else
             some (Sum.inl ((Go.IntKind.wrap .i64 (v325 + (1 : Int))), v326))
           else none
          else
           outO (some (Sum.inl (v325, v326)))) 1000 ((0 : Int), (-1 : Int))) fun (v336, v337) =>
        bif (decide (v337 < (0 : Int))) then
         outO (outO (bif (decide ((List.length v324) ≤ (List.length v324))) then 
          some (Sum.inl (v306, (v307, (v308, (v309, (v310, (v311, (v312, (v313, (v314, (v315, (v316, (v317, (v318, (v319, (v320, (v321, (v322, (v323, (List.take (List.length v324) v324))))))))))))))))))))
         else none))
        else
         bif (decide (((0 : Int) ≤ v337) ∧ (v337 < (14 : Int)))) then 
          bindO (v309 :: (v310 :: (v311 :: (v312 :: (v313 :: (v314 :: (v315 :: (v316 :: (v317 :: (v318 :: (v319 :: (v320 :: (v321 :: (v322 :: (v323 :: ([] : List Int))))))))))))))))[(Int.toNat v337)]? fun x338 =>
          bif (decide (((0 : Int) ≤ v337) ∧ (v337 < (14 : Int)))) then 
           bif (decide ((((Int.toNat v337) * 1) + 1) ≤ 15)) then 
            bindO (some (putL (v309 :: (v310 :: (v311 :: (v312 :: (v313 :: (v314 :: (v315 :: (v316 :: (v317 :: (v318 :: (v319 :: (v320 :: (v321 :: (v322 :: (x338 :: ([] : List Int)))))))))))))))) ((Int.toNat v337) * 1) ((-1 : Int) :: ([] : List Int)))) fun x339 =>
            bindO (client_Step_F ((v306, (v307, v308)), ((5 : Int), ((0 : Int), (Go.IntKind.wrap .u8 v337))))) fun ((x342, (x343, x344)), x345) =>
            joinO (bif (decide ((List.length v324) ≤ (List.length v324))) then 
              loopF (fun (v346, (v347, (v348, (v349, (v350, (v351, (v352, (v353, (v354, (v355, (v356, (v357, (v358, (v359, (v360, (v361, (v362, (v363, (v364, v365))))))))))))))))))) =>
               bif (decide (v346 < (((List.length x345) : Nat) : Int))) then
                bif (decide (((0 : Int) ≤ v346) ∧ (v346 < (((List.length x345) : Nat) : Int)))) then 
                 bindO x345[(Int.toNat v346)]? fun x366 =>
                 bif (decide ((List.length v365) ≤ (List.length v365))) then 
                  bif (decide (((List.length ((List.take (List.length v365) v365) ++ ((v364, (x366.1, (x366.2.1, (x366.2.2.1, x366.2.2.2)))) :: ([] : List (Int × (Int × (Int × (Int × Int)))))))) * 40) ≤ 140737488355328)) then 
                   bindO (some ((List.take (List.length v365) v365) ++ ((v364, (x366.1, (x366.2.1, (x366.2.2.1, x366.2.2.2)))) :: ([] : List (Int × (Int × (Int × (Int × Int)))))))) fun x367 =>
                   bif (decide (((0 : Int) ≤ v346) ∧ (v346 < (((List.length x345) : Nat) : Int)))) then 
                    bindO x345[(Int.toNat v346)]? fun x368 =>
                    bif (decide (x368.1 = (4 : Int))) then
                     bif (decide (((0 : Int) ≤ v346) ∧ (v346 < (((List.length x345) : Nat) : Int)))) then 
                      bindO x345[(Int.toNat v346)]? fun x369 =>
                      bif (decide (x369.2.2.1 < (14 : Int))) then
                       bif (decide (((0 : Int) ≤ v346) ∧ (v346 < (((List.length x345) : Nat) : Int)))) then 
                        bindO x345[(Int.toNat v346)]? fun x370 =>
                        bif (decide (((0 : Int) ≤ v346) ∧ (v346 < (((List.length x345) : Nat) : Int)))) then 
                         bindO x345[(Int.toNat v346)]? fun x371 =>
                         bif (decide (((0 : Int) ≤ x370.2.2.1) ∧ (x370.2.2.1 < (14 : Int)))) then 
                          bif (decide ((((Int.toNat x370.2.2.1) * 1) + 1) ≤ 15)) then 
                           bindO (some (putL (v350 :: (v351 :: (v352 :: (v353 :: (v354 :: (v355 :: (v356 :: (v357 :: (v358 :: (v359 :: (v360 :: (v361 :: (v362 :: (v363 :: (v364 :: ([] : List Int)))))))))))))))) ((Int.toNat x370.2.2.1) * 1) ((Go.IntKind.wrap .i64 (v364 + (maxA (1 : Int) x371.2.2.2))) :: ([] : List Int)))) fun x373 =>
                           bif (decide ((List.length x367) ≤ (List.length x367))) then 
                            some (Sum.inl ((Go.IntKind.wrap .i64 (v346 + (1 : Int))), (v347, (v348, (v349, ((List.getD x373 0 (0 : Int)), ((List.getD x373 1 (0 : Int)), ((List.getD x373 2 (0 : Int)), ((List.getD x373 3 (0 : Int)), ((List.getD x373 4 (0 : Int)), ((List.getD x373 5 (0 : Int)), ((List.getD x373 6 (0 : Int)), ((List.getD x373 7 (0 : Int)), ((List.getD x373 8 (0 : Int)), ((List.getD x373 9 (0 : Int)), ((List.getD x373 10 (0 : Int)), ((List.getD x373 11 (0 : Int)), ((List.getD x373 12 (0 : Int)), ((List.getD x373 13 (0 : Int)), ((List.getD x373 14 (0 : Int)), (List.take (List.length x367) x367)))))))))))))))))))))
                           else none
                          else none
                         else none
                        else none
                       else none
                      else
                       bif (decide ((List.length x367) ≤ (List.length x367))) then 
                        some (Sum.inl ((Go.IntKind.wrap .i64 (v346 + (1 : Int))), (v347, (v348, (v349, (v350, (v351, (v352, (v353, (v354, (v355, (v356, (v357, (v358, (v359, (v360, (v361, (v362, (v363, (v364, (List.take (List.length x367) x367)))))))))))))))))))))
                       else none
                     else none
                    else
                     bif (decide ((List.length x367) ≤ (List.length x367))) then 
                      some (Sum.inl ((Go.IntKind.wrap .i64 (v346 + (1 : Int))), (v347, (v348, (v349, (v350, (v351, (v352, (v353, (v354, (v355, (v356, (v357, (v358, (v359, (v360, (v361, (v362, (v363, (v364, (List.take (List.length x367) x367)))))))))))))))))))))
                     else none
                   else none
                  else none
                 else none
                else none
               else
                outO (bif (decide ((List.length v365) ≤ (List.length v365))) then 
                 some (Sum.inl (v347, (v348, (v349, (v350, (v351, (v352, (v353, (v354, (v355, (v356, (v357, (v358, (v359, (v360, (v361, (v362, (v363, (v364, (List.take (List.length v365) v365))))))))))))))))))))
                else none)) 1000 ((0 : Int), (x342, (x343, (x344, ((List.getD x339 0 (0 : Int)), ((List.getD x339 1 (0 : Int)), ((List.getD x339 2 (0 : Int)), ((List.getD x339 3 (0 : Int)), ((List.getD x339 4 (0 : Int)), ((List.getD x339 5 (0 : Int)), ((List.getD x339 6 (0 : Int)), ((List.getD x339 7 (0 : Int)), ((List.getD x339 8 (0 : Int)), ((List.getD x339 9 (0 : Int)), ((List.getD x339 10 (0 : Int)), ((List.getD x339 11 (0 : Int)), ((List.getD x339 12 (0 : Int)), ((List.getD x339 13 (0 : Int)), ((List.getD x339 14 (0 : Int)), (List.take (List.length v324) v324))))))))))))))))))))
             else none) fun (v377, (v378, (v379, (v380, (v381, (v382, (v383, (v384, (v385, (v386, (v387, (v388, (v389, (v390, (v391, (v392, (v393, (v394, v395)))))))))))))))))) =>
            bif (decide ((List.length v395) ≤ (List.length v395))) then 
             some (Sum.inl (v336, (v337, (v377, (v378, (v379, (v380, (v381, (v382, (v383, (v384, (v385, (v386, (v387, (v388, (v389, (v390, (v391, (v392, (v393, (v394, (List.take (List.length v395) v395))))))))))))))))))))))
            else none
           else none
          else none
         else none) fun (v396, (v397, (v398, (v399, (v400, (v401, (v402, (v403, (v404, (v405, (v406, (v407, (v408, (v409, (v410, (v411, (v412, (v413, (v414, (v415, v416)))))))))))))))))))) =>
       bif (decide ((List.length v416) ≤ (List.length v416))) then 
        some (Sum.inl ((Go.IntKind.wrap .i64 (v305 + (1 : Int))), (v398, (v399, (v400, (v401, (v402, (v403, (v404, (v405, (v406, (v407, (v408, (v409, (v410, (v411, (v412, (v413, (v414, (v415, (List.take (List.length v416) v416)))))))))))))))))))))
       else none
      else
       outO (bif (decide ((List.length v324) ≤ (List.length v324))) then 
        some (Sum.inl (v306, (v307, (v308, (v309, (v310, (v311, (v312, (v313, (v314, (v315, (v316, (v317, (v318, (v319, (v320, (v321, (v322, (v323, (List.take (List.length v324) v324))))))))))))))))))))
       else none)) 1000 ((0 : Int), (v285, (v286, (v287, (v288, (v289, (v290, (v291, (v292, (v293, (v294, (v295, (v296, (v297, (v298, (v299, (v300, (v301, (v302, (List.take (List.length v303) v303))))))))))))))))))))
    else none) fun (v418, (v419, (v420, (v421, (v422, (v423, (v424, (v425, (v426, (v427, (v428, (v429, (v430, (v431, (v432, (v433, (v434, (v435, v436)))))))))))))))))) =>
   bif (decide ((List.length v436) ≤ (List.length v436))) then 
    some (Sum.inl (v418, (v419, (v420, (v421, (v422, (v423, (v424, (v425, (v426, (v427, (v428, (v429, (v430, (v431, (v432, (v433, (v434, ((maxA v435 (40000 : Int)), (List.take (List.length v436) v436))))))))))))))))))))
   else none) fun (v437, (v438, (v439, (v440, (v441, (v442, (v443, (v444, (v445, (v446, (v447, (v448, (v449, (v450, (v451, (v452, (v453, (v454, v455)))))))))))))))))) =>
  joinO (loopF (fun (v456, (v457, v458)) =>
    bif (decide (v456 < (((List.length v455) : Nat) : Int))) then
     bif (decide (((0 : Int) ≤ v456) ∧ (v456 < (((List.length v455) : Nat) : Int)))) then 
      bindO v455[(Int.toNat v456)]? fun x459 =>
      bif (decide (x459.2.1 ≠ (1 : Int))) then
       some (Sum.inl ((Go.IntKind.wrap .i64 (v456 + (1 : Int))), (v457, v458)))
      else
       bif (decide (((0 : Int) ≤ v456) ∧ (v456 < (((List.length v455) : Nat) : Int)))) then 
        bindO v455[(Int.toNat v456)]? fun x461 =>
        bif (q x461.1) then
         some (Sum.inl ((Go.IntKind.wrap .i64 (v456 + (1 : Int))), (v457, v458)))
        else
         bif (decide (v458 ≥ (0 : Int))) then
          bif (decide (((0 : Int) ≤ v456) ∧ (v456 < (((List.length v455) : Nat) : Int)))) then 
           bindO v455[(Int.toNat v456)]? fun x463 =>
           bif (decide (x463.1 ≠ (Go.IntKind.wrap .i64 (v458 + (4000 : Int))))) then
            outO (outO (some Bool.false))
           else
            bif (decide (((0 : Int) ≤ v456) ∧ (v456 < (((List.length v455) : Nat) : Int)))) then 
             bindO v455[(Int.toNat v456)]? fun x465 =>
             some (Sum.inl ((Go.IntKind.wrap .i64 (v456 + (1 : Int))), ((Go.IntKind.wrap .i64 (v457 + (1 : Int))), x465.1)))
            else none
          else none
         else
          bif (decide (((0 : Int) ≤ v456) ∧ (v456 < (((List.length v455) : Nat) : Int)))) then 
           bindO v455[(Int.toNat v456)]? fun x468 =>
           some (Sum.inl ((Go.IntKind.wrap .i64 (v456 + (1 : Int))), ((Go.IntKind.wrap .i64 (v457 + (1 : Int))), x468.1)))
          else none
       else none
     else none
    else
     outO (some (Sum.inl (v457, v458)))) 1000 ((0 : Int), ((0 : Int), (-1 : Int)))) fun (v471, v472) =>
  joinO (joinO (loopF (fun (v473, v474) =>
     bif (decide (v473 < (((List.length v455) : Nat) : Int))) then
      bif (decide (((0 : Int) ≤ v473) ∧ (v473 < (((List.length v455) : Nat) : Int)))) then 
       bindO v455[(Int.toNat v473)]? fun x475 =>
       bif (decide (x475.2.1 = (1 : Int))) then
        bif (decide (((0 : Int) ≤ v473) ∧ (v473 < (((List.length v455) : Nat) : Int)))) then 
         bindO v455[(Int.toNat v473)]? fun x476 =>
         bif (q x476.1) then
          bif (decide (((0 : Int) ≤ v473) ∧ (v473 < (((List.length v455) : Nat) : Int)))) then 
           bindO v455[(Int.toNat v473)]? fun x477 =>
           bif (decide (x477.2.2.1 ≥ (0 : Int))) then
            bif (decide (((0 : Int) ≤ v473) ∧ (v473 < (((List.length v455) : Nat) : Int)))) then 
             bindO v455[(Int.toNat v473)]? fun x478 =>
             bif (decide (x478.2.2.1 ≤ (0 : Int))) then
              some (Sum.inl ((Go.IntKind.wrap .i64 (v473 + (1 : Int))), (Go.IntKind.wrap .i64 (v474 + (1 : Int)))))
             else
              some (Sum.inl ((Go.IntKind.wrap .i64 (v473 + (1 : Int))), v474))
            else none
           else
            some (Sum.inl ((Go.IntKind.wrap .i64 (v473 + (1 : Int))), v474))
          else none
         else
          some (Sum.inl ((Go.IntKind.wrap .i64 (v473 + (1 : Int))), v474))
        else none
       else
        some (Sum.inl ((Go.IntKind.wrap .i64 (v473 + (1 : Int))), v474))
      else none
     else
      outO (some (Sum.inl v474))) 1000 ((0 : Int), (0 : Int))) fun v485 =>
   some (Sum.inl v485)) fun v486 =>
  bif (decide (v486 = x304)) then
   bif (decide (v472 < (0 : Int))) then
    bif (decide ((Go.IntKind.wrap .i64 (v471 + x304)) ≤ (11 : Int))) then
     joinO (joinO (loopF (fun (v488, v489) =>
        bif (decide (v488 < (((List.length v455) : Nat) : Int))) then
         bif (decide (((0 : Int) ≤ v488) ∧ (v488 < (((List.length v455) : Nat) : Int)))) then 
          bindO v455[(Int.toNat v488)]? fun x490 =>
          bif (decide (x490.2.1 = (5 : Int))) then
           bif (decide (((0 : Int) ≤ v488) ∧ (v488 < (((List.length v455) : Nat) : Int)))) then 
            bindO v455[(Int.toNat v488)]? fun x491 =>
            bif (decide (x491.1 ≤ (32000 : Int))) then
             bif (decide (((0 : Int) ≤ v488) ∧ (v488 < (((List.length v455) : Nat) : Int)))) then 
              bindO v455[(Int.toNat v488)]? fun x492 =>
              bif (decide (x492.2.2.1 ≥ (0 : Int))) then
               bif (decide (((0 : Int) ≤ v488) ∧ (v488 < (((List.length v455) : Nat) : Int)))) then 
                bindO v455[(Int.toNat v488)]? fun x493 =>
                bif (decide (x493.2.2.1 ≤ (0 : Int))) then
                 some (Sum.inl ((Go.IntKind.wrap .i64 (v488 + (1 : Int))), (Go.IntKind.wrap .i64 (v489 + (1 : Int)))))
                else
                 some (Sum.inl ((Go.IntKind.wrap .i64 (v488 + (1 : Int))), v489))
               else none
              else
               some (Sum.inl ((Go.IntKind.wrap .i64 (v488 + (1 : Int))), v489))
             else none
            else
             some (Sum.inl ((Go.IntKind.wrap .i64 (v488 + (1 : Int))), v489))
           else none
          else
           some (Sum.inl ((Go.IntKind.wrap .i64 (v488 + (1 : Int))), v489))
         else none
        else
         outO (some (Sum.inl v489))) 1000 ((0 : Int), (0 : Int))) fun v500 =>
      some (Sum.inl v500)) fun v501 =>
     bif (decide (v501 = (1 : Int))) then
      joinO (joinO (loopF (fun (v502, v503) =>
         bif (decide (v502 < (((List.length v455) : Nat) : Int))) then
          bif (decide (((0 : Int) ≤ v502) ∧ (v502 < (((List.length v455) : Nat) : Int)))) then 
           bindO v455[(Int.toNat v502)]? fun x504 =>
           bif (decide (x504.2.1 = (7 : Int))) then
            bif (decide (((0 : Int) ≤ v502) ∧ (v502 < (((List.length v455) : Nat) : Int)))) then 
             bindO v455[(Int.toNat v502)]? fun x505 =>
             bif (decide (x505.1 ≤ (31999 : Int))) then
              bif (decide (((0 : Int) ≤ v502) ∧ (v502 < (((List.length v455) : Nat) : Int)))) then 
               bindO v455[(Int.toNat v502)]? fun x506 =>
               bif (decide (x506.2.2.1 ≥ (0 : Int))) then
                bif (decide (((0 : Int) ≤ v502) ∧ (v502 < (((List.length v455) : Nat) : Int)))) then 
                 bindO v455[(Int.toNat v502)]? fun x507 =>
                 bif (decide (x507.2.2.1 ≤ (0 : Int))) then
                  some (Sum.inl ((Go.IntKind.wrap .i64 (v502 + (1 : Int))), (Go.IntKind.wrap .i64 (v503 + (1 : Int)))))
                 else
                  some (Sum.inl ((Go.IntKind.wrap .i64 (v502 + (1 : Int))), v503))
                else none
               else
                some (Sum.inl ((Go.IntKind.wrap .i64 (v502 + (1 : Int))), v503))
              else none
             else
              some (Sum.inl ((Go.IntKind.wrap .i64 (v502 + (1 : Int))), v503))
            else none
           else
            some (Sum.inl ((Go.IntKind.wrap .i64 (v502 + (1 : Int))), v503))
          else none
         else
          outO (some (Sum.inl v503))) 1000 ((0 : Int), (0 : Int))) fun v514 =>
       some (Sum.inl v514)) fun v515 =>
      bif (decide (v515 = (0 : Int))) then
       joinO (joinO (joinO (loopF (fun (v516, v517) =>
           bif (decide (v516 < (((List.length v455) : Nat) : Int))) then
            bif (decide (((0 : Int) ≤ v516) ∧ (v516 < (((List.length v455) : Nat) : Int)))) then 
             bindO v455[(Int.toNat v516)]? fun x518 =>
             bif (decide (x518.2.1 = (7 : Int))) then
              bif (decide (((0 : Int) ≤ v516) ∧ (v516 < (((List.length v455) : Nat) : Int)))) then 
               bindO v455[(Int.toNat v516)]? fun x519 =>
               bif (decide (x519.1 ≤ v454)) then
                bif (decide (((0 : Int) ≤ v516) ∧ (v516 < (((List.length v455) : Nat) : Int)))) then 
                 bindO v455[(Int.toNat v516)]? fun x520 =>
                 bif (decide (x520.2.2.1 ≥ (0 : Int))) then
                  bif (decide (((0 : Int) ≤ v516) ∧ (v516 < (((List.length v455) : Nat) : Int)))) then 
                   bindO v455[(Int.toNat v516)]? fun x521 =>
                   bif (decide (x521.2.2.1 ≤ (1000 : Int))) then
                    some (Sum.inl ((Go.IntKind.wrap .i64 (v516 + (1 : Int))), (Go.IntKind.wrap .i64 (v517 + (1 : Int)))))
                   else
                    some (Sum.inl ((Go.IntKind.wrap .i64 (v516 + (1 : Int))), v517))
                  else none
                 else
                  some (Sum.inl ((Go.IntKind.wrap .i64 (v516 + (1 : Int))), v517))
                else none
               else
                some (Sum.inl ((Go.IntKind.wrap .i64 (v516 + (1 : Int))), v517))
              else none
             else
              some (Sum.inl ((Go.IntKind.wrap .i64 (v516 + (1 : Int))), v517))
            else none
           else
            outO (some (Sum.inl v517))) 1000 ((0 : Int), (0 : Int))) fun v528 =>
         some (Sum.inl v528)) fun v529 =>
        bif (decide (v529 > (1 : Int))) then
         some (Sum.inl Bool.false)
        else
         bif ((decide (v529 = (1 : Int))) != (decide (v437 = (7 : Int)))) then
          some (Sum.inl Bool.false)
         else
          bif (decide (v529 = (0 : Int))) then
           some (Sum.inl Bool.true)
          else
           bif (decide ((((List.length v455) : Nat) : Int) > (0 : Int))) then
            bindO (some (Go.IntKind.wrap .i64 ((((List.length v455) : Nat) : Int) - (1 : Int)))) fun x530 =>
            bif (decide (((0 : Int) ≤ x530) ∧ (x530 < (((List.length v455) : Nat) : Int)))) then 
             bindO v455[(Int.toNat x530)]? fun x531 =>
             some (Sum.inl (decide (x531.2.1 = (7 : Int))))
            else none
           else
            some (Sum.inl Bool.false)) fun v532 =>
       bif v532 then
        some Bool.true
       else
        some Bool.false
      else
       some Bool.false
     else
      some Bool.false
    else
     some Bool.false
   else
    bif (decide ((Go.IntKind.wrap .i64 (v472 + (4000 : Int))) ≥ (32000 : Int))) then
     bif (decide ((Go.IntKind.wrap .i64 (v471 + x304)) ≤ (11 : Int))) then
      joinO (joinO (loopF (fun (v536, v537) =>
         bif (decide (v536 < (((List.length v455) : Nat) : Int))) then
          bif (decide (((0 : Int) ≤ v536) ∧ (v536 < (((List.length v455) : Nat) : Int)))) then 
           bindO v455[(Int.toNat v536)]? fun x538 =>
           bif (decide (x538.2.1 = (5 : Int))) then
            bif (decide (((0 : Int) ≤ v536) ∧ (v536 < (((List.length v455) : Nat) : Int)))) then 
             bindO v455[(Int.toNat v536)]? fun x539 =>
             bif (decide (x539.1 ≤ (32000 : Int))) then
              bif (decide (((0 : Int) ≤ v536) ∧ (v536 < (((List.length v455) : Nat) : Int)))) then 
               bindO v455[(Int.toNat v536)]? fun x540 =>
               bif (decide (x540.2.2.1 ≥ (0 : Int))) then
                bif (decide (((0 : Int) ≤ v536) ∧ (v536 < (((List.length v455) : Nat) : Int)))) then 
                 bindO v455[(Int.toNat v536)]? fun x541 =>
                 bif (decide (x541.2.2.1 ≤ (0 : Int))) then
                  some (Sum.inl ((Go.IntKind.wrap .i64 (v536 + (1 : Int))), (Go.IntKind.wrap .i64 (v537 + (1 : Int)))))
                 else
                  some (Sum.inl ((Go.IntKind.wrap .i64 (v536 + (1 : Int))), v537))
                else none
               else
                some (Sum.inl ((Go.IntKind.wrap .i64 (v536 + (1 : Int))), v537))
              else none
             else
              some (Sum.inl ((Go.IntKind.wrap .i64 (v536 + (1 : Int))), v537))
            else none
           else
            some (Sum.inl ((Go.IntKind.wrap .i64 (v536 + (1 : Int))), v537))
          else none
         else
          outO (some (Sum.inl v537))) 1000 ((0 : Int), (0 : Int))) fun v548 =>
       some (Sum.inl v548)) fun v549 =>
      bif (decide (v549 = (1 : Int))) then
       joinO (joinO (loopF (fun (v550, v551) =>
          bif (decide (v550 < (((List.length v455) : Nat) : Int))) then
           bif (decide (((0 : Int) ≤ v550) ∧ (v550 < (((List.length v455) : Nat) : Int)))) then 
            bindO v455[(Int.toNat v550)]? fun x552 =>
            bif (decide (x552.2.1 = (7 : Int))) then
             bif (decide (((0 : Int) ≤ v550) ∧ (v550 < (((List.length v455) : Nat) : Int)))) then 
              bindO v455[(Int.toNat v550)]? fun x553 =>
              bif (decide (x553.1 ≤ (31999 : Int))) then
               bif (decide (((0 : Int) ≤ v550) ∧ (v550 < (((List.length v455) : Nat) : Int)))) then 
                bindO v455[(Int.toNat v550)]? fun x554 =>
                bif (decide (x554.2.2.1 ≥ (0 : Int))) then
                 bif (decide (((0 : Int) ≤ v550) ∧ (v550 < (((List.length v455) : Nat) : Int)))) then 
                  bindO v455[(Int.toNat v550)]? fun x555 =>
                  bif (decide (x555.2.2.1 ≤ (0 : Int))) then
                   some (Sum.inl ((Go.IntKind.wrap .i64 (v550 + (1 : Int))), (Go.IntKind.wrap .i64 (v551 + (1 : Int)))))
                  else
                   some (Sum.inl ((Go.IntKind.wrap .i64 (v550 + (1 : Int))), v551))
                 else none
                else
                 some (Sum.inl ((Go.IntKind.wrap .i64 (v550 + (1 : Int))), v551))
               else none
              else
               some (Sum.inl ((Go.IntKind.wrap .i64 (v550 + (1 : Int))), v551))
             else none
            else
             some (Sum.inl ((Go.IntKind.wrap .i64 (v550 + (1 : Int))), v551))
           else none
          else
           outO (some (Sum.inl v551))) 1000 ((0 : Int), (0 : Int))) fun v562 =>
        some (Sum.inl v562)) fun v563 =>
       bif (decide (v563 = (0 : Int))) then
        joinO (joinO (joinO (loopF (fun (v564, v565) =>
            bif (decide (v564 < (((List.length v455) : Nat) : Int))) then
             bif (decide (((0 : Int) ≤ v564) ∧ (v564 < (((List.length v455) : Nat) : Int)))) then 
              bindO v455[(Int.toNat v564)]? fun x566 =>
              bif (decide (x566.2.1 = (7 : Int))) then
               bif (decide (((0 : Int) ≤ v564) ∧ (v564 < (((List.length v455) : Nat) : Int)))) then 
                bindO v455[(Int.toNat v564)]? fun x567 =>
                bif (decide (x567.1 ≤ v454)) then
                 bif (decide (((0 : Int) ≤ v564) ∧ (v564 < (((List.length v455) : Nat) : Int)))) then 
                  bindO v455[(Int.toNat v564)]? fun x568 =>
                  bif (decide (x568.2.2.1 ≥ (0 : Int))) then
                   bif (decide (((0 : Int) ≤ v564) ∧ (v564 < (((List.length v455) : Nat) : Int)))) then 
                    bindO v455[(Int.toNat v564)]? fun x569 =>
                    bif (decide (x569.2.2.1 ≤ (1000 : Int))) then
                     some (Sum.inl ((Go.IntKind.wrap .i64 (v564 + (1 : Int))), (Go.IntKind.wrap .i64 (v565 + (1 : Int)))))
                    else
                     some (Sum.inl ((Go.IntKind.wrap .i64 (v564 + (1 : Int))), v565))
                   else none
                  else
                   some (Sum.inl ((Go.IntKind.wrap .i64 (v564 + (1 : Int))), v565))
                 else none
                else
                 some (Sum.inl ((Go.IntKind.wrap .i64 (v564 + (1 : Int))), v565))
               else none
              else
               some (Sum.inl ((Go.IntKind.wrap .i64 (v564 + (1 : Int))), v565))
             else none
            else
             outO (some (Sum.inl v565))) 1000 ((0 : Int), (0 : Int))) fun v576 =>
          some (Sum.inl v576)) fun v577 =>
         bif (decide (v577 > (1 : Int))) then
          some (Sum.inl Bool.false)
         else
          bif ((decide (v577 = (1 : Int))) != (decide (v437 = (7 : Int)))) then
           some (Sum.inl Bool.false)
          else
           bif (decide (v577 = (0 : Int))) then
            some (Sum.inl Bool.true)
           else
            bif (decide ((((List.length v455) : Nat) : Int) > (0 : Int))) then
             bindO (some (Go.IntKind.wrap .i64 ((((List.length v455) : Nat) : Int) - (1 : Int)))) fun x578 =>
             bif (decide (((0 : Int) ≤ x578) ∧ (x578 < (((List.length v455) : Nat) : Int)))) then 
              bindO v455[(Int.toNat x578)]? fun x579 =>
              some (Sum.inl (decide (x579.2.1 = (7 : Int))))
             else none
            else
             some (Sum.inl Bool.false)) fun v580 =>
        bif v580 then
         some Bool.true
        else
         some Bool.false
       else
        some Bool.false
      else
       some Bool.false
     else
      some Bool.false
    else
     some Bool.false
  else
   some Bool.false
theorem slow_le (T : Int) : LeO (slowF (fun x => decide (x ≤ T)) T) (slowB T) := by
  unfold slowF slowB
  repeat' (first | (with_reducible first | exact LeO.refl _ | apply LeO.bind | apply LeO.join | apply LeO.out | apply LeO.cond | apply LeO.loop) | (with_reducible first | exact Copies_le _ _ (fun _ => rfl) | exact client_Step_le _ | exact client_Start_le _) | (intro p; obtain ⟨a, p⟩ : Prod _ _ := p; revert p) | intro _ | dsimp only)
theorem sl_0 (q : Int → Bool) (T : Int) : slowF (qh 0 500 q) T = some true := by kernel_rfl
theorem sl_1 (q : Int → Bool) (T : Int) : slowF (qh 500 1500 q) T = some true := by kernel_rfl
theorem sl_2 (q : Int → Bool) (T : Int) : slowF (qh 1500 3500 q) T = some true := by kernel_rfl
theorem sl_3 (q : Int → Bool) (T : Int) : slowF (qh 3500 7500 q) T = some true := by kernel_rfl
theorem sl_4 (q : Int → Bool) (T : Int) : slowF (qh 7500 11500 q) T = some true := by kernel_rfl
theorem sl_5 (q : Int → Bool) (T : Int) : slowF (qh 11500 15500 q) T = some true := by kernel_rfl
theorem sl_6 (q : Int → Bool) (T : Int) : slowF (qh 15500 19500 q) T = some true := by kernel_rfl
theorem sl_7 (q : Int → Bool) (T : Int) : slowF (qh 19500 23500 q) T = some true := by kernel_rfl
theorem sl_8 (q : Int → Bool) (T : Int) : slowF (qh 23500 27500 q) T = some true := by kernel_rfl
theorem sl_9 (q : Int → Bool) (T : Int) : slowF (qh 27500 31500 q) T = some true := by kernel_rfl
theorem sl_10 (q : Int → Bool) (T : Int) : slowF (qh 31500 32000 q) T = some true := by kernel_rfl
theorem slow_all (T : Int) (h0 : 0 ≤ T) (h1 : T < 32000) : slowB T = some true := by
  refine slow_le T _ ?_
  by_cases c0 : T < 500
  · rw [← qh_eq (lo := 0) (hi := 500) (t := T) (by omega) (by omega)]
    exact sl_0 _ _
  by_cases c1 : T < 1500
  · rw [← qh_eq (lo := 500) (hi := 1500) (t := T) (by omega) (by omega)]
    exact sl_1 _ _
  by_cases c2 : T < 3500
  · rw [← qh_eq (lo := 1500) (hi := 3500) (t := T) (by omega) (by omega)]
    exact sl_2 _ _
  by_cases c3 : T < 7500
  · rw [← qh_eq (lo := 3500) (hi := 7500) (t := T) (by omega) (by omega)]
    exact sl_3 _ _
  by_cases c4 : T < 11500
  · rw [← qh_eq (lo := 7500) (hi := 11500) (t := T) (by omega) (by omega)]
    exact sl_4 _ _
  by_cases c5 : T < 15500
  · rw [← qh_eq (lo := 11500) (hi := 15500) (t := T) (by omega) (by omega)]
    exact sl_5 _ _
  by_cases c6 : T < 19500
  · rw [← qh_eq (lo := 15500) (hi := 19500) (t := T) (by omega) (by omega)]
    exact sl_6 _ _
  by_cases c7 : T < 23500
  · rw [← qh_eq (lo := 19500) (hi := 23500) (t := T) (by omega) (by omega)]
    exact sl_7 _ _
  by_cases c8 : T < 27500
  · rw [← qh_eq (lo := 23500) (hi := 27500) (t := T) (by omega) (by omega)]
    exact sl_8 _ _
  by_cases c9 : T < 31500
  · rw [← qh_eq (lo := 27500) (hi := 31500) (t := T) (by omega) (by omega)]
    exact sl_9 _ _
  by_cases c10 : T < 32000
  · rw [← qh_eq (lo := 31500) (hi := 32000) (t := T) (by omega) (by omega)]
    exact sl_10 _ _
  omega
theorem slow_main (a : Int) (hw : WfIs [(.tmp 0 false [(.dat (.int .u16))])] a) : dialtonelaw13_ClientSlow a = some true := by
  have h : 0 ≤ a ∧ a ≤ 65535 := wfU16 hw.1.1
  rw [slow_eq, wrap_i64' ⟨by omega, by omega⟩]
  have e : Int.tmod a 32000 = a % 32000 := Int.tmod_eq_emod_of_nonneg h.1
  rw [e]
  exact slow_all _ (by omega) (by omega)
end Go.Proofs.Ytohhpcggahlpjaa
